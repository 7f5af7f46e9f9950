/- The functions of the program in X's code, printed by a program of ours; each is what the program's own is turned to. -/
import Derived.Test.YtpbijmmjcdejoaaGreatProg
import Derived.Test.YtpbijmmjcdejoaaGreatW0
import Derived.KernelRfl
namespace Go.Proofs.YtpbijmmjcdejoaaGreat
open Go.Xr
/- cmp.Or[int] -/
def r76_0 : List XLine := [⟨⟨.mv (.const (.int .i64 (.ofNat 0))), some 2, none⟩, []⟩]
def r76_1 : List XLine := [⟨⟨.mv (.const (.int .i64 (.ofNat 0))), some 3, none⟩, []⟩]
def r76_2 : List XLine := [⟨⟨.mv (.slot 0), some 6, none⟩, []⟩,
  ⟨⟨.len .slice (.slot 6), some 7, none⟩, []⟩,
  ⟨⟨.mv (.const (.int .i64 (.ofNat 0))), some 8, none⟩, []⟩]
def r76_3 : List XLine := [⟨⟨.bin .lss 3 .num (.slot 8) (.slot 7), some 9, none⟩, []⟩]
def r76_4 : List XLine := [⟨⟨.iaddr 1 (.slot 6) (.slot 8), some 10, none⟩, []⟩,
  ⟨⟨.load false 1 (.slot 10), some 11, none⟩, []⟩,
  ⟨⟨.mv (.slot 11), some 5, none⟩, []⟩]
def r76_5 : List XLine := [⟨⟨.mv (.slot 5), some 12, none⟩, []⟩,
  ⟨⟨.mv (.slot 3), some 13, none⟩, []⟩,
  ⟨⟨.bin .neq 3 .num (.slot 12) (.slot 13), some 14, none⟩, []⟩]
def r76_6 : List XLine := [⟨⟨.mv (.slot 5), some 15, none⟩, []⟩,
  ⟨⟨.mv (.slot 15), some 2, none⟩, []⟩]
def r76_7 : List XLine := [⟨⟨.bin .add 3 .num (.slot 8) (.const (.int .i64 (.ofNat 1))), some 16, none⟩, []⟩,
  ⟨⟨.mv (.slot 16), some 8, none⟩, []⟩]
def r76_8 : List XLine := [⟨⟨.mv (.slot 3), some 17, none⟩, []⟩,
  ⟨⟨.mv (.slot 17), some 2, none⟩, []⟩]
def xf76 : XFunc := ⟨(.seq (.region false r76_0)
  (.seq (.region false r76_1)
  (.seq (.seq (.region false r76_2)
  (.block 0 (.loop (.seq (.region false r76_3)
  (.seq (.cond (.slot 9)
  .skip
  (.exit 0))
  (.seq (.block 1 (.seq (.region false r76_4)
  (.seq (.region false r76_5)
  (.cond (.slot 14)
  (.seq (.region false r76_6)
  .ret)
  .skip))))
  (.region false r76_7)))))))
  (.seq (.region false r76_8)
  .ret)))),
  [.tmp 2]⟩
theorem xf76_ok : compFunc Tryz.prog Tryz.f76 = some xf76 := by kernel_rfl
/- cmp.Compare[int] -/
def r77_0 : List XLine := [⟨⟨.mv (.const (.int .i64 (.ofNat 0))), some 4, none⟩, []⟩]
def r77_1 : List XLine := [⟨⟨.mv (.slot 0), some 7, none⟩, []⟩,
  ⟨⟨.call (.const (.func 89 [] [])) [(.slot 7)], some 8, none⟩, []⟩,
  ⟨⟨.mv (.slot 8), some 5, none⟩, []⟩]
def r77_2 : List XLine := [⟨⟨.mv (.slot 1), some 9, none⟩, []⟩,
  ⟨⟨.call (.const (.func 89 [] [])) [(.slot 9)], some 10, none⟩, []⟩,
  ⟨⟨.mv (.slot 10), some 6, none⟩, []⟩]
def r77_3 : List XLine := [⟨⟨.mv (.slot 5), some 11, none⟩, []⟩]
def r77_4 : List XLine := [⟨⟨.mv (.slot 6), some 12, none⟩, []⟩]
def r77_5 : List XLine := [⟨⟨.mv (.const (.int .i64 (.ofNat 0))), some 4, none⟩, []⟩]
def r77_6 : List XLine := [⟨⟨.mv (.const (.int .i64 (.negSucc 0))), some 4, none⟩, []⟩]
def r77_7 : List XLine := [⟨⟨.mv (.slot 6), some 13, none⟩, []⟩]
def r77_8 : List XLine := [⟨⟨.mv (.const (.int .i64 (.ofNat 1))), some 4, none⟩, []⟩]
def r77_9 : List XLine := [⟨⟨.mv (.slot 0), some 14, none⟩, []⟩,
  ⟨⟨.mv (.slot 1), some 15, none⟩, []⟩,
  ⟨⟨.bin .lss 3 .num (.slot 14) (.slot 15), some 16, none⟩, []⟩]
def r77_10 : List XLine := [⟨⟨.mv (.const (.int .i64 (.negSucc 0))), some 4, none⟩, []⟩]
def r77_11 : List XLine := [⟨⟨.mv (.slot 0), some 17, none⟩, []⟩,
  ⟨⟨.mv (.slot 1), some 18, none⟩, []⟩,
  ⟨⟨.bin .gtr 3 .num (.slot 17) (.slot 18), some 19, none⟩, []⟩]
def r77_12 : List XLine := [⟨⟨.mv (.const (.int .i64 (.ofNat 1))), some 4, none⟩, []⟩]
def r77_13 : List XLine := [⟨⟨.mv (.const (.int .i64 (.ofNat 0))), some 4, none⟩, []⟩]
def xf77 : XFunc := ⟨(.seq (.region false r77_0)
  (.seq (.region false r77_1)
  (.seq (.region false r77_2)
  (.seq (.seq (.region false r77_3)
  (.cond (.slot 11)
  (.seq (.seq (.region false r77_4)
  (.cond (.slot 12)
  (.seq (.region false r77_5)
  .ret)
  .skip))
  (.seq (.region false r77_6)
  .ret))
  .skip))
  (.seq (.seq (.region false r77_7)
  (.cond (.slot 13)
  (.seq (.region false r77_8)
  .ret)
  .skip))
  (.seq (.seq (.region false r77_9)
  (.cond (.slot 16)
  (.seq (.region false r77_10)
  .ret)
  .skip))
  (.seq (.seq (.region false r77_11)
  (.cond (.slot 19)
  (.seq (.region false r77_12)
  .ret)
  .skip))
  (.seq (.region false r77_13)
  .ret)))))))),
  [.tmp 4]⟩
theorem xf77_ok : compFunc Tryz.prog Tryz.f77 = some xf77 := by kernel_rfl
/- cmp.Compare[threshing/api.Lit] -/
def r78_0 : List XLine := [⟨⟨.mv (.const (.int .i64 (.ofNat 0))), some 4, none⟩, []⟩]
def r78_1 : List XLine := [⟨⟨.mv (.slot 0), some 7, none⟩, []⟩,
  ⟨⟨.call (.const (.func 100 [] [])) [(.slot 7)], some 8, none⟩, []⟩,
  ⟨⟨.mv (.slot 8), some 5, none⟩, []⟩]
def r78_2 : List XLine := [⟨⟨.mv (.slot 1), some 9, none⟩, []⟩,
  ⟨⟨.call (.const (.func 100 [] [])) [(.slot 9)], some 10, none⟩, []⟩,
  ⟨⟨.mv (.slot 10), some 6, none⟩, []⟩]
def r78_3 : List XLine := [⟨⟨.mv (.slot 5), some 11, none⟩, []⟩]
def r78_4 : List XLine := [⟨⟨.mv (.slot 6), some 12, none⟩, []⟩]
def r78_5 : List XLine := [⟨⟨.mv (.const (.int .i64 (.ofNat 0))), some 4, none⟩, []⟩]
def r78_6 : List XLine := [⟨⟨.mv (.const (.int .i64 (.negSucc 0))), some 4, none⟩, []⟩]
def r78_7 : List XLine := [⟨⟨.mv (.slot 6), some 13, none⟩, []⟩]
def r78_8 : List XLine := [⟨⟨.mv (.const (.int .i64 (.ofNat 1))), some 4, none⟩, []⟩]
def r78_9 : List XLine := [⟨⟨.mv (.slot 0), some 14, none⟩, []⟩,
  ⟨⟨.mv (.slot 1), some 15, none⟩, []⟩,
  ⟨⟨.bin .lss 22 .num (.slot 14) (.slot 15), some 16, none⟩, []⟩]
def r78_10 : List XLine := [⟨⟨.mv (.const (.int .i64 (.negSucc 0))), some 4, none⟩, []⟩]
def r78_11 : List XLine := [⟨⟨.mv (.slot 0), some 17, none⟩, []⟩,
  ⟨⟨.mv (.slot 1), some 18, none⟩, []⟩,
  ⟨⟨.bin .gtr 22 .num (.slot 17) (.slot 18), some 19, none⟩, []⟩]
def r78_12 : List XLine := [⟨⟨.mv (.const (.int .i64 (.ofNat 1))), some 4, none⟩, []⟩]
def r78_13 : List XLine := [⟨⟨.mv (.const (.int .i64 (.ofNat 0))), some 4, none⟩, []⟩]
def xf78 : XFunc := ⟨(.seq (.region false r78_0)
  (.seq (.region false r78_1)
  (.seq (.region false r78_2)
  (.seq (.seq (.region false r78_3)
  (.cond (.slot 11)
  (.seq (.seq (.region false r78_4)
  (.cond (.slot 12)
  (.seq (.region false r78_5)
  .ret)
  .skip))
  (.seq (.region false r78_6)
  .ret))
  .skip))
  (.seq (.seq (.region false r78_7)
  (.cond (.slot 13)
  (.seq (.region false r78_8)
  .ret)
  .skip))
  (.seq (.seq (.region false r78_9)
  (.cond (.slot 16)
  (.seq (.region false r78_10)
  .ret)
  .skip))
  (.seq (.seq (.region false r78_11)
  (.cond (.slot 19)
  (.seq (.region false r78_12)
  .ret)
  .skip))
  (.seq (.region false r78_13)
  .ret)))))))),
  [.tmp 4]⟩
theorem xf78_ok : compFunc Tryz.prog Tryz.f78 = some xf78 := by kernel_rfl
/- slices.AppendSeq[[]int64,int64] -/
def r79_0 : List XLine := [⟨⟨.box (.slot 0), some 2, none⟩, []⟩,
  ⟨⟨.mv (.const .nils), some 4, none⟩, []⟩]
def r79_1 : List XLine := [⟨⟨.mv (.slot 1), some 6, none⟩, []⟩]
def r79_2 : List XLine := [⟨⟨.mv (.slot 7), some 5, none⟩, []⟩]
def r79_3 : List XLine := [⟨⟨.load false 1 (.slot 2), some 8, none⟩, []⟩,
  ⟨⟨.mv (.slot 5), some 9, none⟩, []⟩,
  ⟨⟨.bslice 1 [(.int .i64 (.ofNat 0))] [(0, 1, (.slot 9))] 1, some 10, none⟩, []⟩,
  ⟨⟨.append 1 8 (.slot 8) (.slot 10), some 11, none⟩, []⟩,
  ⟨⟨.store 1 (.slot 2) (.slot 11), none, none⟩, []⟩]
def r79_4 : List XLine := [⟨⟨.load false 1 (.slot 2), some 12, none⟩, []⟩,
  ⟨⟨.mv (.slot 12), some 4, none⟩, []⟩]
def xf79 : XFunc := ⟨(.seq (.region false r79_0)
  (.seq (.seq (.region false r79_1)
  (.block 0 (.rangeFunc (.slot 6) [7] (.region false r79_2)
  (.block 1 (.region false r79_3)))))
  (.seq (.region false r79_4)
  .ret))),
  [.tmp 4]⟩
theorem xf79_ok : compFunc Tryz.prog Tryz.f79 = some xf79 := by kernel_rfl
/- slices.siftDownOrdered[int64] -/
def r80_0 : List XLine := [⟨⟨.mv (.slot 1), some 10, none⟩, []⟩,
  ⟨⟨.mv (.slot 10), some 8, none⟩, []⟩]
def r80_1 : List XLine := [⟨⟨.mv (.slot 8), some 11, none⟩, []⟩,
  ⟨⟨.bin .mul 3 .num (.const (.int .i64 (.ofNat 2))) (.slot 11), some 12, none⟩, []⟩,
  ⟨⟨.bin .add 3 .num (.slot 12) (.const (.int .i64 (.ofNat 1))), some 13, none⟩, []⟩,
  ⟨⟨.mv (.slot 13), some 9, none⟩, []⟩]
def r80_2 : List XLine := [⟨⟨.mv (.slot 9), some 14, none⟩, []⟩,
  ⟨⟨.mv (.slot 2), some 15, none⟩, []⟩,
  ⟨⟨.bin .geq 3 .num (.slot 14) (.slot 15), some 16, none⟩, []⟩]
def r80_3 : List XLine := [⟨⟨.mv (.slot 9), some 17, none⟩, []⟩,
  ⟨⟨.bin .add 3 .num (.slot 17) (.const (.int .i64 (.ofNat 1))), some 18, none⟩, []⟩,
  ⟨⟨.mv (.slot 2), some 19, none⟩, []⟩,
  ⟨⟨.bin .lss 3 .num (.slot 18) (.slot 19), some 20, none⟩, []⟩,
  ⟨⟨.mv (.slot 20), some 21, none⟩, []⟩,
  ⟨⟨.mv (.slot 0), some 22, some (21, true)⟩, []⟩,
  ⟨⟨.mv (.slot 3), some 23, some (21, true)⟩, []⟩,
  ⟨⟨.mv (.slot 9), some 24, some (21, true)⟩, []⟩,
  ⟨⟨.bin .add 3 .num (.slot 23) (.slot 24), some 25, some (21, true)⟩, []⟩,
  ⟨⟨.iaddr 1 (.slot 22) (.slot 25), some 26, some (21, true)⟩, []⟩,
  ⟨⟨.load false 1 (.slot 26), some 27, some (21, true)⟩, []⟩,
  ⟨⟨.mv (.slot 0), some 28, some (21, true)⟩, []⟩,
  ⟨⟨.mv (.slot 3), some 29, some (21, true)⟩, []⟩,
  ⟨⟨.mv (.slot 9), some 30, some (21, true)⟩, []⟩,
  ⟨⟨.bin .add 3 .num (.slot 29) (.slot 30), some 31, some (21, true)⟩, []⟩,
  ⟨⟨.bin .add 3 .num (.slot 31) (.const (.int .i64 (.ofNat 1))), some 32, some (21, true)⟩, []⟩,
  ⟨⟨.iaddr 1 (.slot 28) (.slot 32), some 33, some (21, true)⟩, []⟩,
  ⟨⟨.load false 1 (.slot 33), some 34, some (21, true)⟩, []⟩,
  ⟨⟨.call (.const (.func 60 [] [])) [(.slot 27), (.slot 34)], some 35, some (21, true)⟩, []⟩,
  ⟨⟨.pick (.slot 21) (.slot 35) (.const (.bool false)), some 36, none⟩, []⟩]
def r80_4 : List XLine := [⟨⟨.mv (.slot 9), some 37, none⟩, []⟩,
  ⟨⟨.bin .add 3 .num (.slot 37) (.const (.int .i64 (.ofNat 1))), some 38, none⟩, []⟩,
  ⟨⟨.mv (.slot 38), some 9, none⟩, []⟩]
def r80_5 : List XLine := [⟨⟨.mv (.slot 0), some 39, none⟩, []⟩,
  ⟨⟨.mv (.slot 3), some 40, none⟩, []⟩,
  ⟨⟨.mv (.slot 8), some 41, none⟩, []⟩,
  ⟨⟨.bin .add 3 .num (.slot 40) (.slot 41), some 42, none⟩, []⟩,
  ⟨⟨.iaddr 1 (.slot 39) (.slot 42), some 43, none⟩, []⟩,
  ⟨⟨.load false 1 (.slot 43), some 44, none⟩, []⟩,
  ⟨⟨.mv (.slot 0), some 45, none⟩, []⟩,
  ⟨⟨.mv (.slot 3), some 46, none⟩, []⟩,
  ⟨⟨.mv (.slot 9), some 47, none⟩, []⟩,
  ⟨⟨.bin .add 3 .num (.slot 46) (.slot 47), some 48, none⟩, []⟩,
  ⟨⟨.iaddr 1 (.slot 45) (.slot 48), some 49, none⟩, []⟩,
  ⟨⟨.load false 1 (.slot 49), some 50, none⟩, []⟩,
  ⟨⟨.call (.const (.func 60 [] [])) [(.slot 44), (.slot 50)], some 51, none⟩, []⟩,
  ⟨⟨.un .not (.slot 51), some 52, none⟩, []⟩]
def r80_6 : List XLine := [⟨⟨.mv (.slot 0), some 53, none⟩, []⟩,
  ⟨⟨.mv (.slot 3), some 54, none⟩, []⟩,
  ⟨⟨.mv (.slot 8), some 55, none⟩, []⟩,
  ⟨⟨.bin .add 3 .num (.slot 54) (.slot 55), some 56, none⟩, []⟩,
  ⟨⟨.mv (.slot 0), some 57, none⟩, []⟩,
  ⟨⟨.mv (.slot 3), some 58, none⟩, []⟩,
  ⟨⟨.mv (.slot 9), some 59, none⟩, []⟩,
  ⟨⟨.bin .add 3 .num (.slot 58) (.slot 59), some 60, none⟩, []⟩,
  ⟨⟨.mv (.slot 0), some 61, none⟩, []⟩,
  ⟨⟨.mv (.slot 3), some 62, none⟩, []⟩,
  ⟨⟨.mv (.slot 9), some 63, none⟩, []⟩,
  ⟨⟨.bin .add 3 .num (.slot 62) (.slot 63), some 64, none⟩, []⟩,
  ⟨⟨.iaddr 1 (.slot 61) (.slot 64), some 65, none⟩, []⟩,
  ⟨⟨.load false 1 (.slot 65), some 66, none⟩, []⟩,
  ⟨⟨.mv (.slot 0), some 67, none⟩, []⟩,
  ⟨⟨.mv (.slot 3), some 68, none⟩, []⟩,
  ⟨⟨.mv (.slot 8), some 69, none⟩, []⟩,
  ⟨⟨.bin .add 3 .num (.slot 68) (.slot 69), some 70, none⟩, []⟩,
  ⟨⟨.iaddr 1 (.slot 67) (.slot 70), some 71, none⟩, []⟩,
  ⟨⟨.load false 1 (.slot 71), some 72, none⟩, []⟩,
  ⟨⟨.iaddr 1 (.slot 53) (.slot 56), some 73, none⟩, []⟩,
  ⟨⟨.store 1 (.slot 73) (.slot 66), none, none⟩, []⟩,
  ⟨⟨.iaddr 1 (.slot 57) (.slot 60), some 74, none⟩, []⟩,
  ⟨⟨.store 1 (.slot 74) (.slot 72), none, none⟩, []⟩]
def r80_7 : List XLine := [⟨⟨.mv (.slot 9), some 75, none⟩, []⟩,
  ⟨⟨.mv (.slot 75), some 8, none⟩, []⟩]
def xf80 : XFunc := ⟨(.seq (.region false r80_0)
  (.block 0 (.loop (.block 1 (.seq (.region false r80_1)
  (.seq (.seq (.region false r80_2)
  (.cond (.slot 16)
  (.exit 0)
  .skip))
  (.seq (.seq (.region true r80_3)
  (.cond (.slot 36)
  (.region false r80_4)
  .skip))
  (.seq (.seq (.region true r80_5)
  (.cond (.slot 52)
  .ret
  .skip))
  (.seq (.region true r80_6)
  (.region false r80_7)))))))))),
  []⟩
theorem xf80_ok : compFunc Tryz.prog Tryz.f80 = some xf80 := by kernel_rfl
/- slices.nextPowerOfTwo -/
def r81_0 : List XLine := [⟨⟨.mv (.const (.int .u64 (.ofNat 0))), some 2, none⟩, []⟩]
def r81_1 : List XLine := [⟨⟨.mv (.slot 0), some 3, none⟩, []⟩,
  ⟨⟨.conv .u64 (.slot 3), some 4, none⟩, []⟩,
  ⟨⟨.call (.const (.func 40 [] [])) [(.slot 4)], some 5, none⟩, []⟩,
  ⟨⟨.bin .shl 95 .num (.const (.int .u64 (.ofNat 1))) (.slot 5), some 6, none⟩, []⟩,
  ⟨⟨.mv (.slot 6), some 2, none⟩, []⟩]
def xf81 : XFunc := ⟨(.seq (.region false r81_0)
  (.seq (.region false r81_1)
  .ret)),
  [.tmp 2]⟩
theorem xf81_ok : compFunc Tryz.prog Tryz.f81 = some xf81 := by kernel_rfl
/- (*slices.xorshift).Next -/
def r82_0 : List XLine := [⟨⟨.mv (.const (.int .u64 (.ofNat 0))), some 2, none⟩, []⟩]
def r82_1 : List XLine := [⟨⟨.mv (.slot 0), some 3, none⟩, []⟩,
  ⟨⟨.nilCheck (.slot 3), some 4, none⟩, []⟩,
  ⟨⟨.load false 1 (.slot 4), some 5, none⟩, []⟩,
  ⟨⟨.mv (.slot 0), some 6, none⟩, []⟩,
  ⟨⟨.nilCheck (.slot 6), some 7, none⟩, []⟩,
  ⟨⟨.load false 1 (.slot 7), some 8, none⟩, []⟩,
  ⟨⟨.bin .shl 128 .num (.slot 8) (.const (.int .u64 (.ofNat 13))), some 9, none⟩, []⟩,
  ⟨⟨.bin .xor 128 .num (.slot 5) (.slot 9), some 10, none⟩, []⟩,
  ⟨⟨.nilCheck (.slot 3), some 11, none⟩, []⟩,
  ⟨⟨.store 1 (.slot 11) (.slot 10), none, none⟩, []⟩]
def r82_2 : List XLine := [⟨⟨.mv (.slot 0), some 12, none⟩, []⟩,
  ⟨⟨.nilCheck (.slot 12), some 13, none⟩, []⟩,
  ⟨⟨.load false 1 (.slot 13), some 14, none⟩, []⟩,
  ⟨⟨.mv (.slot 0), some 15, none⟩, []⟩,
  ⟨⟨.nilCheck (.slot 15), some 16, none⟩, []⟩,
  ⟨⟨.load false 1 (.slot 16), some 17, none⟩, []⟩,
  ⟨⟨.bin .shr 128 .num (.slot 17) (.const (.int .u64 (.ofNat 7))), some 18, none⟩, []⟩,
  ⟨⟨.bin .xor 128 .num (.slot 14) (.slot 18), some 19, none⟩, []⟩,
  ⟨⟨.nilCheck (.slot 12), some 20, none⟩, []⟩,
  ⟨⟨.store 1 (.slot 20) (.slot 19), none, none⟩, []⟩]
def r82_3 : List XLine := [⟨⟨.mv (.slot 0), some 21, none⟩, []⟩,
  ⟨⟨.nilCheck (.slot 21), some 22, none⟩, []⟩,
  ⟨⟨.load false 1 (.slot 22), some 23, none⟩, []⟩,
  ⟨⟨.mv (.slot 0), some 24, none⟩, []⟩,
  ⟨⟨.nilCheck (.slot 24), some 25, none⟩, []⟩,
  ⟨⟨.load false 1 (.slot 25), some 26, none⟩, []⟩,
  ⟨⟨.bin .shl 128 .num (.slot 26) (.const (.int .u64 (.ofNat 17))), some 27, none⟩, []⟩,
  ⟨⟨.bin .xor 128 .num (.slot 23) (.slot 27), some 28, none⟩, []⟩,
  ⟨⟨.nilCheck (.slot 21), some 29, none⟩, []⟩,
  ⟨⟨.store 1 (.slot 29) (.slot 28), none, none⟩, []⟩]
def r82_4 : List XLine := [⟨⟨.mv (.slot 0), some 30, none⟩, []⟩,
  ⟨⟨.nilCheck (.slot 30), some 31, none⟩, []⟩,
  ⟨⟨.load false 1 (.slot 31), some 32, none⟩, []⟩,
  ⟨⟨.mv (.slot 32), some 2, none⟩, []⟩]
def xf82 : XFunc := ⟨(.seq (.region false r82_0)
  (.seq (.region true r82_1)
  (.seq (.region true r82_2)
  (.seq (.region true r82_3)
  (.seq (.region false r82_4)
  .ret))))),
  [.tmp 2]⟩
theorem xf82_ok : compFunc Tryz.prog Tryz.f82 = some xf82 := by kernel_rfl
/- slices.medianAdjacentOrdered[int64] -/
def r83_0 : List XLine := [⟨⟨.mv (.const (.int .i64 (.ofNat 0))), some 6, none⟩, []⟩]
def r83_1 : List XLine := [⟨⟨.mv (.slot 0), some 7, none⟩, []⟩,
  ⟨⟨.mv (.slot 1), some 8, none⟩, []⟩,
  ⟨⟨.bin .sub 3 .num (.slot 8) (.const (.int .i64 (.ofNat 1))), some 9, none⟩, []⟩,
  ⟨⟨.mv (.slot 1), some 10, none⟩, []⟩,
  ⟨⟨.mv (.slot 1), some 11, none⟩, []⟩,
  ⟨⟨.bin .add 3 .num (.slot 11) (.const (.int .i64 (.ofNat 1))), some 12, none⟩, []⟩,
  ⟨⟨.mv (.slot 2), some 13, none⟩, []⟩,
  ⟨⟨.call (.const (.func 84 [] [])) [(.slot 7), (.slot 9), (.slot 10), (.slot 12), (.slot 13)], some 14, none⟩, []⟩,
  ⟨⟨.mv (.slot 14), some 6, none⟩, []⟩]
def xf83 : XFunc := ⟨(.seq (.region false r83_0)
  (.seq (.region false r83_1)
  .ret)),
  [.tmp 6]⟩
theorem xf83_ok : compFunc Tryz.prog Tryz.f83 = some xf83 := by kernel_rfl
/- slices.medianOrdered[int64] -/
def r84_0 : List XLine := [⟨⟨.mv (.const (.int .i64 (.ofNat 0))), some 10, none⟩, []⟩]
def r84_1 : List XLine := [⟨⟨.mv (.slot 0), some 12, none⟩, []⟩,
  ⟨⟨.mv (.slot 1), some 13, none⟩, []⟩,
  ⟨⟨.mv (.slot 2), some 14, none⟩, []⟩,
  ⟨⟨.mv (.slot 4), some 15, none⟩, []⟩,
  ⟨⟨.call (.const (.func 101 [] [])) [(.slot 12), (.slot 13), (.slot 14), (.slot 15)], some 16, none⟩, []⟩,
  ⟨⟨.mv (.slot 16), some 11, none⟩, []⟩,
  ⟨⟨.extract (.slot 11) 0, some 17, none⟩, []⟩,
  ⟨⟨.extract (.slot 11) 1, some 18, none⟩, []⟩,
  ⟨⟨.mv (.slot 17), some 1, none⟩, []⟩,
  ⟨⟨.mv (.slot 18), some 2, none⟩, []⟩]
def r84_2 : List XLine := [⟨⟨.mv (.slot 0), some 20, none⟩, []⟩,
  ⟨⟨.mv (.slot 2), some 21, none⟩, []⟩,
  ⟨⟨.mv (.slot 3), some 22, none⟩, []⟩,
  ⟨⟨.mv (.slot 4), some 23, none⟩, []⟩,
  ⟨⟨.call (.const (.func 101 [] [])) [(.slot 20), (.slot 21), (.slot 22), (.slot 23)], some 24, none⟩, []⟩,
  ⟨⟨.mv (.slot 24), some 19, none⟩, []⟩,
  ⟨⟨.extract (.slot 19) 0, some 25, none⟩, []⟩,
  ⟨⟨.extract (.slot 19) 1, some 26, none⟩, []⟩,
  ⟨⟨.mv (.slot 25), some 2, none⟩, []⟩,
  ⟨⟨.mv (.slot 26), some 3, none⟩, []⟩]
def r84_3 : List XLine := [⟨⟨.mv (.slot 0), some 28, none⟩, []⟩,
  ⟨⟨.mv (.slot 1), some 29, none⟩, []⟩,
  ⟨⟨.mv (.slot 2), some 30, none⟩, []⟩,
  ⟨⟨.mv (.slot 4), some 31, none⟩, []⟩,
  ⟨⟨.call (.const (.func 101 [] [])) [(.slot 28), (.slot 29), (.slot 30), (.slot 31)], some 32, none⟩, []⟩,
  ⟨⟨.mv (.slot 32), some 27, none⟩, []⟩,
  ⟨⟨.extract (.slot 27) 0, some 33, none⟩, []⟩,
  ⟨⟨.extract (.slot 27) 1, some 34, none⟩, []⟩,
  ⟨⟨.mv (.slot 33), some 1, none⟩, []⟩,
  ⟨⟨.mv (.slot 34), some 2, none⟩, []⟩]
def r84_4 : List XLine := [⟨⟨.mv (.slot 2), some 35, none⟩, []⟩,
  ⟨⟨.mv (.slot 35), some 10, none⟩, []⟩]
def xf84 : XFunc := ⟨(.seq (.region false r84_0)
  (.seq (.region false r84_1)
  (.seq (.region false r84_2)
  (.seq (.region false r84_3)
  (.seq (.region false r84_4)
  .ret))))),
  [.tmp 10]⟩
theorem xf84_ok : compFunc Tryz.prog Tryz.f84 = some xf84 := by kernel_rfl
/- cmp.isNaN[int64] -/
def r85_0 : List XLine := [⟨⟨.mv (.const (.bool false)), some 2, none⟩, []⟩]
def r85_1 : List XLine := [⟨⟨.mv (.slot 0), some 3, none⟩, []⟩,
  ⟨⟨.mv (.slot 0), some 4, none⟩, []⟩,
  ⟨⟨.bin .neq 2 .num (.slot 3) (.slot 4), some 5, none⟩, []⟩,
  ⟨⟨.mv (.slot 5), some 2, none⟩, []⟩]
def xf85 : XFunc := ⟨(.seq (.region false r85_0)
  (.seq (.region false r85_1)
  .ret)),
  [.tmp 2]⟩
theorem xf85_ok : compFunc Tryz.prog Tryz.f85 = some xf85 := by kernel_rfl
/- slices.siftDownOrdered[int] -/
def r86_0 : List XLine := [⟨⟨.mv (.slot 1), some 10, none⟩, []⟩,
  ⟨⟨.mv (.slot 10), some 8, none⟩, []⟩]
def r86_1 : List XLine := [⟨⟨.mv (.slot 8), some 11, none⟩, []⟩,
  ⟨⟨.bin .mul 3 .num (.const (.int .i64 (.ofNat 2))) (.slot 11), some 12, none⟩, []⟩,
  ⟨⟨.bin .add 3 .num (.slot 12) (.const (.int .i64 (.ofNat 1))), some 13, none⟩, []⟩,
  ⟨⟨.mv (.slot 13), some 9, none⟩, []⟩]
def r86_2 : List XLine := [⟨⟨.mv (.slot 9), some 14, none⟩, []⟩,
  ⟨⟨.mv (.slot 2), some 15, none⟩, []⟩,
  ⟨⟨.bin .geq 3 .num (.slot 14) (.slot 15), some 16, none⟩, []⟩]
def r86_3 : List XLine := [⟨⟨.mv (.slot 9), some 17, none⟩, []⟩,
  ⟨⟨.bin .add 3 .num (.slot 17) (.const (.int .i64 (.ofNat 1))), some 18, none⟩, []⟩,
  ⟨⟨.mv (.slot 2), some 19, none⟩, []⟩,
  ⟨⟨.bin .lss 3 .num (.slot 18) (.slot 19), some 20, none⟩, []⟩,
  ⟨⟨.mv (.slot 20), some 21, none⟩, []⟩,
  ⟨⟨.mv (.slot 0), some 22, some (21, true)⟩, []⟩,
  ⟨⟨.mv (.slot 3), some 23, some (21, true)⟩, []⟩,
  ⟨⟨.mv (.slot 9), some 24, some (21, true)⟩, []⟩,
  ⟨⟨.bin .add 3 .num (.slot 23) (.slot 24), some 25, some (21, true)⟩, []⟩,
  ⟨⟨.iaddr 1 (.slot 22) (.slot 25), some 26, some (21, true)⟩, []⟩,
  ⟨⟨.load false 1 (.slot 26), some 27, some (21, true)⟩, []⟩,
  ⟨⟨.mv (.slot 0), some 28, some (21, true)⟩, []⟩,
  ⟨⟨.mv (.slot 3), some 29, some (21, true)⟩, []⟩,
  ⟨⟨.mv (.slot 9), some 30, some (21, true)⟩, []⟩,
  ⟨⟨.bin .add 3 .num (.slot 29) (.slot 30), some 31, some (21, true)⟩, []⟩,
  ⟨⟨.bin .add 3 .num (.slot 31) (.const (.int .i64 (.ofNat 1))), some 32, some (21, true)⟩, []⟩,
  ⟨⟨.iaddr 1 (.slot 28) (.slot 32), some 33, some (21, true)⟩, []⟩,
  ⟨⟨.load false 1 (.slot 33), some 34, some (21, true)⟩, []⟩,
  ⟨⟨.call (.const (.func 71 [] [])) [(.slot 27), (.slot 34)], some 35, some (21, true)⟩, []⟩,
  ⟨⟨.pick (.slot 21) (.slot 35) (.const (.bool false)), some 36, none⟩, []⟩]
def r86_4 : List XLine := [⟨⟨.mv (.slot 9), some 37, none⟩, []⟩,
  ⟨⟨.bin .add 3 .num (.slot 37) (.const (.int .i64 (.ofNat 1))), some 38, none⟩, []⟩,
  ⟨⟨.mv (.slot 38), some 9, none⟩, []⟩]
def r86_5 : List XLine := [⟨⟨.mv (.slot 0), some 39, none⟩, []⟩,
  ⟨⟨.mv (.slot 3), some 40, none⟩, []⟩,
  ⟨⟨.mv (.slot 8), some 41, none⟩, []⟩,
  ⟨⟨.bin .add 3 .num (.slot 40) (.slot 41), some 42, none⟩, []⟩,
  ⟨⟨.iaddr 1 (.slot 39) (.slot 42), some 43, none⟩, []⟩,
  ⟨⟨.load false 1 (.slot 43), some 44, none⟩, []⟩,
  ⟨⟨.mv (.slot 0), some 45, none⟩, []⟩,
  ⟨⟨.mv (.slot 3), some 46, none⟩, []⟩,
  ⟨⟨.mv (.slot 9), some 47, none⟩, []⟩,
  ⟨⟨.bin .add 3 .num (.slot 46) (.slot 47), some 48, none⟩, []⟩,
  ⟨⟨.iaddr 1 (.slot 45) (.slot 48), some 49, none⟩, []⟩,
  ⟨⟨.load false 1 (.slot 49), some 50, none⟩, []⟩,
  ⟨⟨.call (.const (.func 71 [] [])) [(.slot 44), (.slot 50)], some 51, none⟩, []⟩,
  ⟨⟨.un .not (.slot 51), some 52, none⟩, []⟩]
def r86_6 : List XLine := [⟨⟨.mv (.slot 0), some 53, none⟩, []⟩,
  ⟨⟨.mv (.slot 3), some 54, none⟩, []⟩,
  ⟨⟨.mv (.slot 8), some 55, none⟩, []⟩,
  ⟨⟨.bin .add 3 .num (.slot 54) (.slot 55), some 56, none⟩, []⟩,
  ⟨⟨.mv (.slot 0), some 57, none⟩, []⟩,
  ⟨⟨.mv (.slot 3), some 58, none⟩, []⟩,
  ⟨⟨.mv (.slot 9), some 59, none⟩, []⟩,
  ⟨⟨.bin .add 3 .num (.slot 58) (.slot 59), some 60, none⟩, []⟩,
  ⟨⟨.mv (.slot 0), some 61, none⟩, []⟩,
  ⟨⟨.mv (.slot 3), some 62, none⟩, []⟩,
  ⟨⟨.mv (.slot 9), some 63, none⟩, []⟩,
  ⟨⟨.bin .add 3 .num (.slot 62) (.slot 63), some 64, none⟩, []⟩,
  ⟨⟨.iaddr 1 (.slot 61) (.slot 64), some 65, none⟩, []⟩,
  ⟨⟨.load false 1 (.slot 65), some 66, none⟩, []⟩,
  ⟨⟨.mv (.slot 0), some 67, none⟩, []⟩,
  ⟨⟨.mv (.slot 3), some 68, none⟩, []⟩,
  ⟨⟨.mv (.slot 8), some 69, none⟩, []⟩,
  ⟨⟨.bin .add 3 .num (.slot 68) (.slot 69), some 70, none⟩, []⟩,
  ⟨⟨.iaddr 1 (.slot 67) (.slot 70), some 71, none⟩, []⟩,
  ⟨⟨.load false 1 (.slot 71), some 72, none⟩, []⟩,
  ⟨⟨.iaddr 1 (.slot 53) (.slot 56), some 73, none⟩, []⟩,
  ⟨⟨.store 1 (.slot 73) (.slot 66), none, none⟩, []⟩,
  ⟨⟨.iaddr 1 (.slot 57) (.slot 60), some 74, none⟩, []⟩,
  ⟨⟨.store 1 (.slot 74) (.slot 72), none, none⟩, []⟩]
def r86_7 : List XLine := [⟨⟨.mv (.slot 9), some 75, none⟩, []⟩,
  ⟨⟨.mv (.slot 75), some 8, none⟩, []⟩]
def xf86 : XFunc := ⟨(.seq (.region false r86_0)
  (.block 0 (.loop (.block 1 (.seq (.region false r86_1)
  (.seq (.seq (.region false r86_2)
  (.cond (.slot 16)
  (.exit 0)
  .skip))
  (.seq (.seq (.region true r86_3)
  (.cond (.slot 36)
  (.region false r86_4)
  .skip))
  (.seq (.seq (.region true r86_5)
  (.cond (.slot 52)
  .ret
  .skip))
  (.seq (.region true r86_6)
  (.region false r86_7)))))))))),
  []⟩
theorem xf86_ok : compFunc Tryz.prog Tryz.f86 = some xf86 := by kernel_rfl
/- slices.medianAdjacentOrdered[int] -/
def r87_0 : List XLine := [⟨⟨.mv (.const (.int .i64 (.ofNat 0))), some 6, none⟩, []⟩]
def r87_1 : List XLine := [⟨⟨.mv (.slot 0), some 7, none⟩, []⟩,
  ⟨⟨.mv (.slot 1), some 8, none⟩, []⟩,
  ⟨⟨.bin .sub 3 .num (.slot 8) (.const (.int .i64 (.ofNat 1))), some 9, none⟩, []⟩,
  ⟨⟨.mv (.slot 1), some 10, none⟩, []⟩,
  ⟨⟨.mv (.slot 1), some 11, none⟩, []⟩,
  ⟨⟨.bin .add 3 .num (.slot 11) (.const (.int .i64 (.ofNat 1))), some 12, none⟩, []⟩,
  ⟨⟨.mv (.slot 2), some 13, none⟩, []⟩,
  ⟨⟨.call (.const (.func 88 [] [])) [(.slot 7), (.slot 9), (.slot 10), (.slot 12), (.slot 13)], some 14, none⟩, []⟩,
  ⟨⟨.mv (.slot 14), some 6, none⟩, []⟩]
def xf87 : XFunc := ⟨(.seq (.region false r87_0)
  (.seq (.region false r87_1)
  .ret)),
  [.tmp 6]⟩
theorem xf87_ok : compFunc Tryz.prog Tryz.f87 = some xf87 := by kernel_rfl
/- slices.medianOrdered[int] -/
def r88_0 : List XLine := [⟨⟨.mv (.const (.int .i64 (.ofNat 0))), some 10, none⟩, []⟩]
def r88_1 : List XLine := [⟨⟨.mv (.slot 0), some 12, none⟩, []⟩,
  ⟨⟨.mv (.slot 1), some 13, none⟩, []⟩,
  ⟨⟨.mv (.slot 2), some 14, none⟩, []⟩,
  ⟨⟨.mv (.slot 4), some 15, none⟩, []⟩,
  ⟨⟨.call (.const (.func 102 [] [])) [(.slot 12), (.slot 13), (.slot 14), (.slot 15)], some 16, none⟩, []⟩,
  ⟨⟨.mv (.slot 16), some 11, none⟩, []⟩,
  ⟨⟨.extract (.slot 11) 0, some 17, none⟩, []⟩,
  ⟨⟨.extract (.slot 11) 1, some 18, none⟩, []⟩,
  ⟨⟨.mv (.slot 17), some 1, none⟩, []⟩,
  ⟨⟨.mv (.slot 18), some 2, none⟩, []⟩]
def r88_2 : List XLine := [⟨⟨.mv (.slot 0), some 20, none⟩, []⟩,
  ⟨⟨.mv (.slot 2), some 21, none⟩, []⟩,
  ⟨⟨.mv (.slot 3), some 22, none⟩, []⟩,
  ⟨⟨.mv (.slot 4), some 23, none⟩, []⟩,
  ⟨⟨.call (.const (.func 102 [] [])) [(.slot 20), (.slot 21), (.slot 22), (.slot 23)], some 24, none⟩, []⟩,
  ⟨⟨.mv (.slot 24), some 19, none⟩, []⟩,
  ⟨⟨.extract (.slot 19) 0, some 25, none⟩, []⟩,
  ⟨⟨.extract (.slot 19) 1, some 26, none⟩, []⟩,
  ⟨⟨.mv (.slot 25), some 2, none⟩, []⟩,
  ⟨⟨.mv (.slot 26), some 3, none⟩, []⟩]
def r88_3 : List XLine := [⟨⟨.mv (.slot 0), some 28, none⟩, []⟩,
  ⟨⟨.mv (.slot 1), some 29, none⟩, []⟩,
  ⟨⟨.mv (.slot 2), some 30, none⟩, []⟩,
  ⟨⟨.mv (.slot 4), some 31, none⟩, []⟩,
  ⟨⟨.call (.const (.func 102 [] [])) [(.slot 28), (.slot 29), (.slot 30), (.slot 31)], some 32, none⟩, []⟩,
  ⟨⟨.mv (.slot 32), some 27, none⟩, []⟩,
  ⟨⟨.extract (.slot 27) 0, some 33, none⟩, []⟩,
  ⟨⟨.extract (.slot 27) 1, some 34, none⟩, []⟩,
  ⟨⟨.mv (.slot 33), some 1, none⟩, []⟩,
  ⟨⟨.mv (.slot 34), some 2, none⟩, []⟩]
def r88_4 : List XLine := [⟨⟨.mv (.slot 2), some 35, none⟩, []⟩,
  ⟨⟨.mv (.slot 35), some 10, none⟩, []⟩]
def xf88 : XFunc := ⟨(.seq (.region false r88_0)
  (.seq (.region false r88_1)
  (.seq (.region false r88_2)
  (.seq (.region false r88_3)
  (.seq (.region false r88_4)
  .ret))))),
  [.tmp 10]⟩
theorem xf88_ok : compFunc Tryz.prog Tryz.f88 = some xf88 := by kernel_rfl
/- cmp.isNaN[int] -/
def r89_0 : List XLine := [⟨⟨.mv (.const (.bool false)), some 2, none⟩, []⟩]
def r89_1 : List XLine := [⟨⟨.mv (.slot 0), some 3, none⟩, []⟩,
  ⟨⟨.mv (.slot 0), some 4, none⟩, []⟩,
  ⟨⟨.bin .neq 3 .num (.slot 3) (.slot 4), some 5, none⟩, []⟩,
  ⟨⟨.mv (.slot 5), some 2, none⟩, []⟩]
def xf89 : XFunc := ⟨(.seq (.region false r89_0)
  (.seq (.region false r89_1)
  .ret)),
  [.tmp 2]⟩
theorem xf89_ok : compFunc Tryz.prog Tryz.f89 = some xf89 := by kernel_rfl
/- slices.ContainsFunc[threshing/api.Clause,threshing/api.Lit] -/
def r90_0 : List XLine := [⟨⟨.mv (.const (.bool false)), some 4, none⟩, []⟩]
def r90_1 : List XLine := [⟨⟨.mv (.slot 0), some 5, none⟩, []⟩,
  ⟨⟨.mv (.slot 1), some 6, none⟩, []⟩,
  ⟨⟨.call (.const (.func 103 [] [])) [(.slot 5), (.slot 6)], some 7, none⟩, []⟩,
  ⟨⟨.bin .geq 3 .num (.slot 7) (.const (.int .i64 (.ofNat 0))), some 8, none⟩, []⟩,
  ⟨⟨.mv (.slot 8), some 4, none⟩, []⟩]
def xf90 : XFunc := ⟨(.seq (.region false r90_0)
  (.seq (.region false r90_1)
  .ret)),
  [.tmp 4]⟩
theorem xf90_ok : compFunc Tryz.prog Tryz.f90 = some xf90 := by kernel_rfl
/- threshing/cnf.Subsumes$1 -/
def r91_0 : List XLine := [⟨⟨.mv (.const (.bool false)), some 3, none⟩, []⟩]
def r91_1 : List XLine := [⟨⟨.load false 1 (.slot 1), some 4, none⟩, []⟩,
  ⟨⟨.mv (.slot 0), some 5, none⟩, []⟩,
  ⟨⟨.call (.const (.func 33 [] [])) [(.slot 4), (.slot 5)], some 6, none⟩, []⟩,
  ⟨⟨.un .not (.slot 6), some 7, none⟩, []⟩,
  ⟨⟨.mv (.slot 7), some 3, none⟩, []⟩]
def xf91 : XFunc := ⟨(.seq (.region false r91_0)
  (.seq (.region false r91_1)
  .ret)),
  [.tmp 3]⟩
theorem xf91_ok : compFunc Tryz.prog Tryz.f91 = some xf91 := by kernel_rfl
/- slices.insertionSortCmpFunc[threshing/api.Lit] -/
def r92_0 : List XLine := [⟨⟨.mv (.slot 1), some 10, none⟩, []⟩,
  ⟨⟨.bin .add 3 .num (.slot 10) (.const (.int .i64 (.ofNat 1))), some 11, none⟩, []⟩,
  ⟨⟨.mv (.slot 11), some 8, none⟩, []⟩]
def r92_1 : List XLine := [⟨⟨.mv (.slot 8), some 12, none⟩, []⟩,
  ⟨⟨.mv (.slot 2), some 13, none⟩, []⟩,
  ⟨⟨.bin .lss 3 .num (.slot 12) (.slot 13), some 14, none⟩, []⟩]
def r92_2 : List XLine := [⟨⟨.mv (.slot 8), some 17, none⟩, []⟩,
  ⟨⟨.mv (.slot 17), some 9, none⟩, []⟩]
def r92_3 : List XLine := [⟨⟨.mv (.slot 9), some 18, none⟩, []⟩,
  ⟨⟨.mv (.slot 1), some 19, none⟩, []⟩,
  ⟨⟨.bin .gtr 3 .num (.slot 18) (.slot 19), some 20, none⟩, []⟩,
  ⟨⟨.mv (.slot 20), some 21, none⟩, []⟩,
  ⟨⟨.mv (.slot 3), some 22, some (21, true)⟩, []⟩,
  ⟨⟨.mv (.slot 0), some 23, some (21, true)⟩, []⟩,
  ⟨⟨.mv (.slot 9), some 24, some (21, true)⟩, []⟩,
  ⟨⟨.iaddr 1 (.slot 23) (.slot 24), some 25, some (21, true)⟩, []⟩,
  ⟨⟨.load false 1 (.slot 25), some 26, some (21, true)⟩, []⟩,
  ⟨⟨.mv (.slot 0), some 27, some (21, true)⟩, []⟩,
  ⟨⟨.mv (.slot 9), some 28, some (21, true)⟩, []⟩,
  ⟨⟨.bin .sub 3 .num (.slot 28) (.const (.int .i64 (.ofNat 1))), some 29, some (21, true)⟩, []⟩,
  ⟨⟨.iaddr 1 (.slot 27) (.slot 29), some 30, some (21, true)⟩, []⟩,
  ⟨⟨.load false 1 (.slot 30), some 31, some (21, true)⟩, []⟩,
  ⟨⟨.call (.slot 22) [(.slot 26), (.slot 31)], some 32, some (21, true)⟩, []⟩,
  ⟨⟨.bin .lss 3 .num (.slot 32) (.const (.int .i64 (.ofNat 0))), some 33, some (21, true)⟩, []⟩,
  ⟨⟨.pick (.slot 21) (.slot 33) (.const (.bool false)), some 34, none⟩, []⟩]
def r92_4 : List XLine := [⟨⟨.mv (.slot 0), some 37, none⟩, []⟩,
  ⟨⟨.mv (.slot 9), some 38, none⟩, []⟩,
  ⟨⟨.mv (.slot 0), some 39, none⟩, []⟩,
  ⟨⟨.mv (.slot 9), some 40, none⟩, []⟩,
  ⟨⟨.bin .sub 3 .num (.slot 40) (.const (.int .i64 (.ofNat 1))), some 41, none⟩, []⟩,
  ⟨⟨.mv (.slot 0), some 42, none⟩, []⟩,
  ⟨⟨.mv (.slot 9), some 43, none⟩, []⟩,
  ⟨⟨.bin .sub 3 .num (.slot 43) (.const (.int .i64 (.ofNat 1))), some 44, none⟩, []⟩,
  ⟨⟨.iaddr 1 (.slot 42) (.slot 44), some 45, none⟩, []⟩,
  ⟨⟨.load false 1 (.slot 45), some 46, none⟩, []⟩,
  ⟨⟨.mv (.slot 0), some 47, none⟩, []⟩,
  ⟨⟨.mv (.slot 9), some 48, none⟩, []⟩,
  ⟨⟨.iaddr 1 (.slot 47) (.slot 48), some 49, none⟩, []⟩,
  ⟨⟨.load false 1 (.slot 49), some 50, none⟩, []⟩,
  ⟨⟨.iaddr 1 (.slot 37) (.slot 38), some 51, none⟩, []⟩,
  ⟨⟨.store 1 (.slot 51) (.slot 46), none, none⟩, []⟩,
  ⟨⟨.iaddr 1 (.slot 39) (.slot 41), some 52, none⟩, []⟩,
  ⟨⟨.store 1 (.slot 52) (.slot 50), none, none⟩, []⟩]
def r92_5 : List XLine := [⟨⟨.mv (.slot 9), some 35, none⟩, []⟩,
  ⟨⟨.bin .sub 3 .num (.slot 35) (.const (.int .i64 (.ofNat 1))), some 36, none⟩, []⟩,
  ⟨⟨.mv (.slot 36), some 9, none⟩, []⟩]
def r92_6 : List XLine := [⟨⟨.mv (.slot 8), some 15, none⟩, []⟩,
  ⟨⟨.bin .add 3 .num (.slot 15) (.const (.int .i64 (.ofNat 1))), some 16, none⟩, []⟩,
  ⟨⟨.mv (.slot 16), some 8, none⟩, []⟩]
def xf92 : XFunc := ⟨(.seq (.region false r92_0)
  (.block 0 (.loop (.seq (.seq (.region false r92_1)
  (.cond (.slot 14)
  .skip
  (.exit 0)))
  (.seq (.block 1 (.seq (.region false r92_2)
  (.block 2 (.loop (.seq (.seq (.region true r92_3)
  (.cond (.slot 34)
  .skip
  (.exit 2)))
  (.seq (.block 3 (.region true r92_4))
  (.region false r92_5)))))))
  (.region false r92_6)))))),
  []⟩
theorem xf92_ok : compFunc Tryz.prog Tryz.f92 = some xf92 := by kernel_rfl
/- slices.heapSortCmpFunc[threshing/api.Lit] -/
def r93_0 : List XLine := [⟨⟨.mv (.slot 1), some 13, none⟩, []⟩,
  ⟨⟨.mv (.slot 13), some 8, none⟩, []⟩]
def r93_1 : List XLine := [⟨⟨.mv (.const (.int .i64 (.ofNat 0))), some 9, none⟩, []⟩]
def r93_2 : List XLine := [⟨⟨.mv (.slot 2), some 14, none⟩, []⟩,
  ⟨⟨.mv (.slot 1), some 15, none⟩, []⟩,
  ⟨⟨.bin .sub 3 .num (.slot 14) (.slot 15), some 16, none⟩, []⟩,
  ⟨⟨.mv (.slot 16), some 10, none⟩, []⟩]
def r93_3 : List XLine := [⟨⟨.mv (.slot 10), some 17, none⟩, []⟩,
  ⟨⟨.bin .sub 3 .num (.slot 17) (.const (.int .i64 (.ofNat 1))), some 18, none⟩, []⟩,
  ⟨⟨.bin .quo 3 .num (.slot 18) (.const (.int .i64 (.ofNat 2))), some 19, none⟩, []⟩,
  ⟨⟨.mv (.slot 19), some 11, none⟩, []⟩]
def r93_4 : List XLine := [⟨⟨.mv (.slot 11), some 20, none⟩, []⟩,
  ⟨⟨.bin .geq 3 .num (.slot 20) (.const (.int .i64 (.ofNat 0))), some 21, none⟩, []⟩]
def r93_5 : List XLine := [⟨⟨.mv (.slot 0), some 24, none⟩, []⟩,
  ⟨⟨.mv (.slot 11), some 25, none⟩, []⟩,
  ⟨⟨.mv (.slot 10), some 26, none⟩, []⟩,
  ⟨⟨.mv (.slot 8), some 27, none⟩, []⟩,
  ⟨⟨.mv (.slot 3), some 28, none⟩, []⟩,
  ⟨⟨.call (.const (.func 104 [] [])) [(.slot 24), (.slot 25), (.slot 26), (.slot 27), (.slot 28)], some 29, none⟩, []⟩]
def r93_6 : List XLine := [⟨⟨.mv (.slot 11), some 22, none⟩, []⟩,
  ⟨⟨.bin .sub 3 .num (.slot 22) (.const (.int .i64 (.ofNat 1))), some 23, none⟩, []⟩,
  ⟨⟨.mv (.slot 23), some 11, none⟩, []⟩]
def r93_7 : List XLine := [⟨⟨.mv (.slot 10), some 30, none⟩, []⟩,
  ⟨⟨.bin .sub 3 .num (.slot 30) (.const (.int .i64 (.ofNat 1))), some 31, none⟩, []⟩,
  ⟨⟨.mv (.slot 31), some 12, none⟩, []⟩]
def r93_8 : List XLine := [⟨⟨.mv (.slot 12), some 32, none⟩, []⟩,
  ⟨⟨.bin .geq 3 .num (.slot 32) (.const (.int .i64 (.ofNat 0))), some 33, none⟩, []⟩]
def r93_9 : List XLine := [⟨⟨.mv (.slot 0), some 36, none⟩, []⟩,
  ⟨⟨.mv (.slot 8), some 37, none⟩, []⟩,
  ⟨⟨.mv (.slot 0), some 38, none⟩, []⟩,
  ⟨⟨.mv (.slot 8), some 39, none⟩, []⟩,
  ⟨⟨.mv (.slot 12), some 40, none⟩, []⟩,
  ⟨⟨.bin .add 3 .num (.slot 39) (.slot 40), some 41, none⟩, []⟩,
  ⟨⟨.mv (.slot 0), some 42, none⟩, []⟩,
  ⟨⟨.mv (.slot 8), some 43, none⟩, []⟩,
  ⟨⟨.mv (.slot 12), some 44, none⟩, []⟩,
  ⟨⟨.bin .add 3 .num (.slot 43) (.slot 44), some 45, none⟩, []⟩,
  ⟨⟨.iaddr 1 (.slot 42) (.slot 45), some 46, none⟩, []⟩,
  ⟨⟨.load false 1 (.slot 46), some 47, none⟩, []⟩,
  ⟨⟨.mv (.slot 0), some 48, none⟩, []⟩,
  ⟨⟨.mv (.slot 8), some 49, none⟩, []⟩,
  ⟨⟨.iaddr 1 (.slot 48) (.slot 49), some 50, none⟩, []⟩,
  ⟨⟨.load false 1 (.slot 50), some 51, none⟩, []⟩,
  ⟨⟨.iaddr 1 (.slot 36) (.slot 37), some 52, none⟩, []⟩,
  ⟨⟨.store 1 (.slot 52) (.slot 47), none, none⟩, []⟩,
  ⟨⟨.iaddr 1 (.slot 38) (.slot 41), some 53, none⟩, []⟩,
  ⟨⟨.store 1 (.slot 53) (.slot 51), none, none⟩, []⟩]
def r93_10 : List XLine := [⟨⟨.mv (.slot 0), some 54, none⟩, []⟩,
  ⟨⟨.mv (.slot 9), some 55, none⟩, []⟩,
  ⟨⟨.mv (.slot 12), some 56, none⟩, []⟩,
  ⟨⟨.mv (.slot 8), some 57, none⟩, []⟩,
  ⟨⟨.mv (.slot 3), some 58, none⟩, []⟩,
  ⟨⟨.call (.const (.func 104 [] [])) [(.slot 54), (.slot 55), (.slot 56), (.slot 57), (.slot 58)], some 59, none⟩, []⟩]
def r93_11 : List XLine := [⟨⟨.mv (.slot 12), some 34, none⟩, []⟩,
  ⟨⟨.bin .sub 3 .num (.slot 34) (.const (.int .i64 (.ofNat 1))), some 35, none⟩, []⟩,
  ⟨⟨.mv (.slot 35), some 12, none⟩, []⟩]
def xf93 : XFunc := ⟨(.seq (.region false r93_0)
  (.seq (.region false r93_1)
  (.seq (.region false r93_2)
  (.seq (.seq (.region false r93_3)
  (.block 0 (.loop (.seq (.seq (.region false r93_4)
  (.cond (.slot 21)
  .skip
  (.exit 0)))
  (.seq (.block 1 (.region false r93_5))
  (.region false r93_6))))))
  (.seq (.region false r93_7)
  (.block 2 (.loop (.seq (.seq (.region false r93_8)
  (.cond (.slot 33)
  .skip
  (.exit 2)))
  (.seq (.block 3 (.seq (.region true r93_9)
  (.region false r93_10)))
  (.region false r93_11)))))))))),
  []⟩
theorem xf93_ok : compFunc Tryz.prog Tryz.f93 = some xf93 := by kernel_rfl
/- slices.breakPatternsCmpFunc[threshing/api.Lit] -/
def r94_0 : List XLine := [⟨⟨.mv (.slot 2), some 13, none⟩, []⟩,
  ⟨⟨.mv (.slot 1), some 14, none⟩, []⟩,
  ⟨⟨.bin .sub 3 .num (.slot 13) (.slot 14), some 15, none⟩, []⟩,
  ⟨⟨.mv (.slot 15), some 8, none⟩, []⟩]
def r94_1 : List XLine := [⟨⟨.mv (.slot 8), some 16, none⟩, []⟩,
  ⟨⟨.bin .geq 3 .num (.slot 16) (.const (.int .i64 (.ofNat 8))), some 17, none⟩, []⟩]
def r94_2 : List XLine := [⟨⟨.mv (.slot 8), some 18, none⟩, []⟩,
  ⟨⟨.conv .u64 (.slot 18), some 19, none⟩, []⟩,
  ⟨⟨.alloc [(.int .u64 (.ofNat 0))], some 9, none⟩, []⟩,
  ⟨⟨.store 1 (.slot 9) (.slot 19), none, none⟩, []⟩]
def r94_3 : List XLine := [⟨⟨.mv (.slot 8), some 20, none⟩, []⟩,
  ⟨⟨.call (.const (.func 81 [] [])) [(.slot 20)], some 21, none⟩, []⟩,
  ⟨⟨.mv (.slot 21), some 10, none⟩, []⟩]
def r94_4 : List XLine := [⟨⟨.mv (.slot 1), some 22, none⟩, []⟩,
  ⟨⟨.mv (.slot 8), some 23, none⟩, []⟩,
  ⟨⟨.bin .quo 3 .num (.slot 23) (.const (.int .i64 (.ofNat 4))), some 24, none⟩, []⟩,
  ⟨⟨.bin .mul 3 .num (.slot 24) (.const (.int .i64 (.ofNat 2))), some 25, none⟩, []⟩,
  ⟨⟨.bin .add 3 .num (.slot 22) (.slot 25), some 26, none⟩, []⟩,
  ⟨⟨.bin .sub 3 .num (.slot 26) (.const (.int .i64 (.ofNat 1))), some 27, none⟩, []⟩,
  ⟨⟨.mv (.slot 27), some 11, none⟩, []⟩]
def r94_5 : List XLine := [⟨⟨.mv (.slot 11), some 28, none⟩, []⟩,
  ⟨⟨.mv (.slot 1), some 29, none⟩, []⟩,
  ⟨⟨.mv (.slot 8), some 30, none⟩, []⟩,
  ⟨⟨.bin .quo 3 .num (.slot 30) (.const (.int .i64 (.ofNat 4))), some 31, none⟩, []⟩,
  ⟨⟨.bin .mul 3 .num (.slot 31) (.const (.int .i64 (.ofNat 2))), some 32, none⟩, []⟩,
  ⟨⟨.bin .add 3 .num (.slot 29) (.slot 32), some 33, none⟩, []⟩,
  ⟨⟨.bin .add 3 .num (.slot 33) (.const (.int .i64 (.ofNat 1))), some 34, none⟩, []⟩,
  ⟨⟨.bin .leq 3 .num (.slot 28) (.slot 34), some 35, none⟩, []⟩]
def r94_6 : List XLine := [⟨⟨.call (.const (.func 82 [] [])) [(.slot 9)], some 38, none⟩, []⟩,
  ⟨⟨.mv (.slot 10), some 39, none⟩, []⟩,
  ⟨⟨.bin .sub 95 .num (.slot 39) (.const (.int .u64 (.ofNat 1))), some 40, none⟩, []⟩,
  ⟨⟨.bin .and 95 .num (.slot 38) (.slot 40), some 41, none⟩, []⟩,
  ⟨⟨.conv .i64 (.slot 41), some 42, none⟩, []⟩,
  ⟨⟨.mv (.slot 42), some 12, none⟩, []⟩]
def r94_7 : List XLine := [⟨⟨.mv (.slot 12), some 43, none⟩, []⟩,
  ⟨⟨.mv (.slot 8), some 44, none⟩, []⟩,
  ⟨⟨.bin .geq 3 .num (.slot 43) (.slot 44), some 45, none⟩, []⟩]
def r94_8 : List XLine := [⟨⟨.mv (.slot 12), some 46, none⟩, []⟩,
  ⟨⟨.mv (.slot 8), some 47, none⟩, []⟩,
  ⟨⟨.bin .sub 3 .num (.slot 46) (.slot 47), some 48, none⟩, []⟩,
  ⟨⟨.mv (.slot 48), some 12, none⟩, []⟩]
def r94_9 : List XLine := [⟨⟨.mv (.slot 0), some 49, none⟩, []⟩,
  ⟨⟨.mv (.slot 11), some 50, none⟩, []⟩,
  ⟨⟨.mv (.slot 0), some 51, none⟩, []⟩,
  ⟨⟨.mv (.slot 1), some 52, none⟩, []⟩,
  ⟨⟨.mv (.slot 12), some 53, none⟩, []⟩,
  ⟨⟨.bin .add 3 .num (.slot 52) (.slot 53), some 54, none⟩, []⟩,
  ⟨⟨.mv (.slot 0), some 55, none⟩, []⟩,
  ⟨⟨.mv (.slot 1), some 56, none⟩, []⟩,
  ⟨⟨.mv (.slot 12), some 57, none⟩, []⟩,
  ⟨⟨.bin .add 3 .num (.slot 56) (.slot 57), some 58, none⟩, []⟩,
  ⟨⟨.iaddr 1 (.slot 55) (.slot 58), some 59, none⟩, []⟩,
  ⟨⟨.load false 1 (.slot 59), some 60, none⟩, []⟩,
  ⟨⟨.mv (.slot 0), some 61, none⟩, []⟩,
  ⟨⟨.mv (.slot 11), some 62, none⟩, []⟩,
  ⟨⟨.iaddr 1 (.slot 61) (.slot 62), some 63, none⟩, []⟩,
  ⟨⟨.load false 1 (.slot 63), some 64, none⟩, []⟩,
  ⟨⟨.iaddr 1 (.slot 49) (.slot 50), some 65, none⟩, []⟩,
  ⟨⟨.store 1 (.slot 65) (.slot 60), none, none⟩, []⟩,
  ⟨⟨.iaddr 1 (.slot 51) (.slot 54), some 66, none⟩, []⟩,
  ⟨⟨.store 1 (.slot 66) (.slot 64), none, none⟩, []⟩]
def r94_10 : List XLine := [⟨⟨.mv (.slot 11), some 36, none⟩, []⟩,
  ⟨⟨.bin .add 3 .num (.slot 36) (.const (.int .i64 (.ofNat 1))), some 37, none⟩, []⟩,
  ⟨⟨.mv (.slot 37), some 11, none⟩, []⟩]
def xf94 : XFunc := ⟨(.seq (.region false r94_0)
  (.seq (.region false r94_1)
  (.cond (.slot 17)
  (.seq (.region false r94_2)
  (.seq (.region false r94_3)
  (.seq (.region false r94_4)
  (.block 0 (.loop (.seq (.seq (.region false r94_5)
  (.cond (.slot 35)
  .skip
  (.exit 0)))
  (.seq (.block 1 (.seq (.region false r94_6)
  (.seq (.seq (.region false r94_7)
  (.cond (.slot 45)
  (.region false r94_8)
  .skip))
  (.region true r94_9))))
  (.region false r94_10))))))))
  .skip))),
  []⟩
theorem xf94_ok : compFunc Tryz.prog Tryz.f94 = some xf94 := by kernel_rfl
/- slices.choosePivotCmpFunc[threshing/api.Lit] -/
def r95_0 : List XLine := [⟨⟨.mv (.const (.int .i64 (.ofNat 0))), some 8, none⟩, []⟩,
  ⟨⟨.mv (.const (.int .i64 (.ofNat 0))), some 9, none⟩, []⟩]
def r95_1 : List XLine := [⟨⟨.mv (.slot 2), some 15, none⟩, []⟩,
  ⟨⟨.mv (.slot 1), some 16, none⟩, []⟩,
  ⟨⟨.bin .sub 3 .num (.slot 15) (.slot 16), some 17, none⟩, []⟩,
  ⟨⟨.mv (.slot 17), some 10, none⟩, []⟩]
def r95_2 : List XLine := [⟨⟨.alloc [(.int .i64 (.ofNat 0))], some 11, none⟩, []⟩]
def r95_3 : List XLine := [⟨⟨.mv (.slot 1), some 18, none⟩, []⟩,
  ⟨⟨.mv (.slot 10), some 19, none⟩, []⟩,
  ⟨⟨.bin .quo 3 .num (.slot 19) (.const (.int .i64 (.ofNat 4))), some 20, none⟩, []⟩,
  ⟨⟨.bin .mul 3 .num (.slot 20) (.const (.int .i64 (.ofNat 1))), some 21, none⟩, []⟩,
  ⟨⟨.bin .add 3 .num (.slot 18) (.slot 21), some 22, none⟩, []⟩,
  ⟨⟨.mv (.slot 22), some 12, none⟩, []⟩]
def r95_4 : List XLine := [⟨⟨.mv (.slot 1), some 23, none⟩, []⟩,
  ⟨⟨.mv (.slot 10), some 24, none⟩, []⟩,
  ⟨⟨.bin .quo 3 .num (.slot 24) (.const (.int .i64 (.ofNat 4))), some 25, none⟩, []⟩,
  ⟨⟨.bin .mul 3 .num (.slot 25) (.const (.int .i64 (.ofNat 2))), some 26, none⟩, []⟩,
  ⟨⟨.bin .add 3 .num (.slot 23) (.slot 26), some 27, none⟩, []⟩,
  ⟨⟨.mv (.slot 27), some 13, none⟩, []⟩]
def r95_5 : List XLine := [⟨⟨.mv (.slot 1), some 28, none⟩, []⟩,
  ⟨⟨.mv (.slot 10), some 29, none⟩, []⟩,
  ⟨⟨.bin .quo 3 .num (.slot 29) (.const (.int .i64 (.ofNat 4))), some 30, none⟩, []⟩,
  ⟨⟨.bin .mul 3 .num (.slot 30) (.const (.int .i64 (.ofNat 3))), some 31, none⟩, []⟩,
  ⟨⟨.bin .add 3 .num (.slot 28) (.slot 31), some 32, none⟩, []⟩,
  ⟨⟨.mv (.slot 32), some 14, none⟩, []⟩]
def r95_6 : List XLine := [⟨⟨.mv (.slot 10), some 33, none⟩, []⟩,
  ⟨⟨.bin .geq 3 .num (.slot 33) (.const (.int .i64 (.ofNat 8))), some 34, none⟩, []⟩]
def r95_7 : List XLine := [⟨⟨.mv (.slot 10), some 35, none⟩, []⟩,
  ⟨⟨.bin .geq 3 .num (.slot 35) (.const (.int .i64 (.ofNat 50))), some 36, none⟩, []⟩]
def r95_8 : List XLine := [⟨⟨.mv (.slot 0), some 37, none⟩, []⟩,
  ⟨⟨.mv (.slot 12), some 38, none⟩, []⟩,
  ⟨⟨.mv (.slot 3), some 39, none⟩, []⟩,
  ⟨⟨.call (.const (.func 105 [] [])) [(.slot 37), (.slot 38), (.slot 11), (.slot 39)], some 40, none⟩, []⟩,
  ⟨⟨.mv (.slot 40), some 12, none⟩, []⟩]
def r95_9 : List XLine := [⟨⟨.mv (.slot 0), some 41, none⟩, []⟩,
  ⟨⟨.mv (.slot 13), some 42, none⟩, []⟩,
  ⟨⟨.mv (.slot 3), some 43, none⟩, []⟩,
  ⟨⟨.call (.const (.func 105 [] [])) [(.slot 41), (.slot 42), (.slot 11), (.slot 43)], some 44, none⟩, []⟩,
  ⟨⟨.mv (.slot 44), some 13, none⟩, []⟩]
def r95_10 : List XLine := [⟨⟨.mv (.slot 0), some 45, none⟩, []⟩,
  ⟨⟨.mv (.slot 14), some 46, none⟩, []⟩,
  ⟨⟨.mv (.slot 3), some 47, none⟩, []⟩,
  ⟨⟨.call (.const (.func 105 [] [])) [(.slot 45), (.slot 46), (.slot 11), (.slot 47)], some 48, none⟩, []⟩,
  ⟨⟨.mv (.slot 48), some 14, none⟩, []⟩]
def r95_11 : List XLine := [⟨⟨.mv (.slot 0), some 49, none⟩, []⟩,
  ⟨⟨.mv (.slot 12), some 50, none⟩, []⟩,
  ⟨⟨.mv (.slot 13), some 51, none⟩, []⟩,
  ⟨⟨.mv (.slot 14), some 52, none⟩, []⟩,
  ⟨⟨.mv (.slot 3), some 53, none⟩, []⟩,
  ⟨⟨.call (.const (.func 106 [] [])) [(.slot 49), (.slot 50), (.slot 51), (.slot 52), (.slot 11), (.slot 53)], some 54, none⟩, []⟩,
  ⟨⟨.mv (.slot 54), some 13, none⟩, []⟩]
def r95_12 : List XLine := [⟨⟨.load false 1 (.slot 11), some 55, none⟩, []⟩]
def r95_13 : List XLine := [⟨⟨.bin .eql 3 .num (.slot 55) (.const (.int .i64 (.ofNat 0))), some 58, none⟩, []⟩,
  ⟨⟨.mv (.slot 58), some 57, none⟩, []⟩]
def r95_14 : List XLine := [⟨⟨.mv (.slot 13), some 59, none⟩, []⟩,
  ⟨⟨.mv (.slot 59), some 8, none⟩, []⟩,
  ⟨⟨.mv (.const (.int .i64 (.ofNat 1))), some 9, none⟩, []⟩]
def r95_15 : List XLine := [⟨⟨.bin .eql 3 .num (.slot 55) (.const (.int .i64 (.ofNat 12))), some 61, none⟩, []⟩,
  ⟨⟨.mv (.slot 61), some 60, none⟩, []⟩]
def r95_16 : List XLine := [⟨⟨.mv (.slot 13), some 62, none⟩, []⟩,
  ⟨⟨.mv (.slot 62), some 8, none⟩, []⟩,
  ⟨⟨.mv (.const (.int .i64 (.ofNat 2))), some 9, none⟩, []⟩]
def r95_17 : List XLine := [⟨⟨.mv (.slot 13), some 56, none⟩, []⟩,
  ⟨⟨.mv (.slot 56), some 8, none⟩, []⟩,
  ⟨⟨.mv (.const (.int .i64 (.ofNat 0))), some 9, none⟩, []⟩]
def xf95 : XFunc := ⟨(.seq (.region false r95_0)
  (.seq (.region false r95_1)
  (.seq (.region false r95_2)
  (.seq (.region false r95_3)
  (.seq (.region false r95_4)
  (.seq (.region false r95_5)
  (.seq (.seq (.region false r95_6)
  (.cond (.slot 34)
  (.seq (.seq (.region false r95_7)
  (.cond (.slot 36)
  (.seq (.region false r95_8)
  (.seq (.region false r95_9)
  (.region false r95_10)))
  .skip))
  (.region false r95_11))
  .skip))
  (.seq (.region false r95_12)
  (.block 0 (.seq (.region false r95_13)
  (.cond (.slot 57)
  (.seq (.region false r95_14)
  .ret)
  (.seq (.region false r95_15)
  (.cond (.slot 60)
  (.seq (.region false r95_16)
  .ret)
  (.seq (.region false r95_17)
  .ret)))))))))))))),
  [.tmp 8, .tmp 9]⟩
theorem xf95_ok : compFunc Tryz.prog Tryz.f95 = some xf95 := by kernel_rfl
/- slices.reverseRangeCmpFunc[threshing/api.Lit] -/
def r96_0 : List XLine := [⟨⟨.mv (.slot 1), some 10, none⟩, []⟩,
  ⟨⟨.mv (.slot 10), some 8, none⟩, []⟩]
def r96_1 : List XLine := [⟨⟨.mv (.slot 2), some 11, none⟩, []⟩,
  ⟨⟨.bin .sub 3 .num (.slot 11) (.const (.int .i64 (.ofNat 1))), some 12, none⟩, []⟩,
  ⟨⟨.mv (.slot 12), some 9, none⟩, []⟩]
def r96_2 : List XLine := [⟨⟨.mv (.slot 8), some 13, none⟩, []⟩,
  ⟨⟨.mv (.slot 9), some 14, none⟩, []⟩,
  ⟨⟨.bin .lss 3 .num (.slot 13) (.slot 14), some 15, none⟩, []⟩]
def r96_3 : List XLine := [⟨⟨.mv (.slot 0), some 16, none⟩, []⟩,
  ⟨⟨.mv (.slot 8), some 17, none⟩, []⟩,
  ⟨⟨.mv (.slot 0), some 18, none⟩, []⟩,
  ⟨⟨.mv (.slot 9), some 19, none⟩, []⟩,
  ⟨⟨.mv (.slot 0), some 20, none⟩, []⟩,
  ⟨⟨.mv (.slot 9), some 21, none⟩, []⟩,
  ⟨⟨.iaddr 1 (.slot 20) (.slot 21), some 22, none⟩, []⟩,
  ⟨⟨.load false 1 (.slot 22), some 23, none⟩, []⟩,
  ⟨⟨.mv (.slot 0), some 24, none⟩, []⟩,
  ⟨⟨.mv (.slot 8), some 25, none⟩, []⟩,
  ⟨⟨.iaddr 1 (.slot 24) (.slot 25), some 26, none⟩, []⟩,
  ⟨⟨.load false 1 (.slot 26), some 27, none⟩, []⟩,
  ⟨⟨.iaddr 1 (.slot 16) (.slot 17), some 28, none⟩, []⟩,
  ⟨⟨.store 1 (.slot 28) (.slot 23), none, none⟩, []⟩,
  ⟨⟨.iaddr 1 (.slot 18) (.slot 19), some 29, none⟩, []⟩,
  ⟨⟨.store 1 (.slot 29) (.slot 27), none, none⟩, []⟩]
def r96_4 : List XLine := [⟨⟨.mv (.slot 8), some 30, none⟩, []⟩,
  ⟨⟨.bin .add 3 .num (.slot 30) (.const (.int .i64 (.ofNat 1))), some 31, none⟩, []⟩,
  ⟨⟨.mv (.slot 31), some 8, none⟩, []⟩]
def r96_5 : List XLine := [⟨⟨.mv (.slot 9), some 32, none⟩, []⟩,
  ⟨⟨.bin .sub 3 .num (.slot 32) (.const (.int .i64 (.ofNat 1))), some 33, none⟩, []⟩,
  ⟨⟨.mv (.slot 33), some 9, none⟩, []⟩]
def xf96 : XFunc := ⟨(.seq (.region false r96_0)
  (.seq (.region false r96_1)
  (.block 0 (.loop (.seq (.seq (.region false r96_2)
  (.cond (.slot 15)
  .skip
  (.exit 0)))
  (.block 1 (.seq (.region true r96_3)
  (.seq (.region false r96_4)
  (.region false r96_5))))))))),
  []⟩
theorem xf96_ok : compFunc Tryz.prog Tryz.f96 = some xf96 := by kernel_rfl
/- slices.partialInsertionSortCmpFunc[threshing/api.Lit] -/
def r97_0 : List XLine := [⟨⟨.mv (.const (.bool false)), some 8, none⟩, []⟩]
def r97_1 : List XLine := [⟨⟨.mv (.slot 1), some 13, none⟩, []⟩,
  ⟨⟨.bin .add 3 .num (.slot 13) (.const (.int .i64 (.ofNat 1))), some 14, none⟩, []⟩,
  ⟨⟨.mv (.slot 14), some 9, none⟩, []⟩]
def r97_2 : List XLine := [⟨⟨.mv (.const (.int .i64 (.ofNat 0))), some 10, none⟩, []⟩]
def r97_3 : List XLine := [⟨⟨.mv (.slot 10), some 15, none⟩, []⟩,
  ⟨⟨.bin .lss 3 .num (.slot 15) (.const (.int .i64 (.ofNat 5))), some 16, none⟩, []⟩]
def r97_4 : List XLine := [⟨⟨.mv (.slot 9), some 19, none⟩, []⟩,
  ⟨⟨.mv (.slot 2), some 20, none⟩, []⟩,
  ⟨⟨.bin .lss 3 .num (.slot 19) (.slot 20), some 21, none⟩, []⟩,
  ⟨⟨.mv (.slot 21), some 22, none⟩, []⟩,
  ⟨⟨.mv (.slot 3), some 23, some (22, true)⟩, []⟩,
  ⟨⟨.mv (.slot 0), some 24, some (22, true)⟩, []⟩,
  ⟨⟨.mv (.slot 9), some 25, some (22, true)⟩, []⟩,
  ⟨⟨.iaddr 1 (.slot 24) (.slot 25), some 26, some (22, true)⟩, []⟩,
  ⟨⟨.load false 1 (.slot 26), some 27, some (22, true)⟩, []⟩,
  ⟨⟨.mv (.slot 0), some 28, some (22, true)⟩, []⟩,
  ⟨⟨.mv (.slot 9), some 29, some (22, true)⟩, []⟩,
  ⟨⟨.bin .sub 3 .num (.slot 29) (.const (.int .i64 (.ofNat 1))), some 30, some (22, true)⟩, []⟩,
  ⟨⟨.iaddr 1 (.slot 28) (.slot 30), some 31, some (22, true)⟩, []⟩,
  ⟨⟨.load false 1 (.slot 31), some 32, some (22, true)⟩, []⟩,
  ⟨⟨.call (.slot 23) [(.slot 27), (.slot 32)], some 33, some (22, true)⟩, []⟩,
  ⟨⟨.bin .lss 3 .num (.slot 33) (.const (.int .i64 (.ofNat 0))), some 34, some (22, true)⟩, []⟩,
  ⟨⟨.un .not (.slot 34), some 35, some (22, true)⟩, []⟩,
  ⟨⟨.pick (.slot 22) (.slot 35) (.const (.bool false)), some 36, none⟩, []⟩]
def r97_5 : List XLine := [⟨⟨.mv (.slot 9), some 37, none⟩, []⟩,
  ⟨⟨.bin .add 3 .num (.slot 37) (.const (.int .i64 (.ofNat 1))), some 38, none⟩, []⟩,
  ⟨⟨.mv (.slot 38), some 9, none⟩, []⟩]
def r97_6 : List XLine := [⟨⟨.mv (.slot 9), some 39, none⟩, []⟩,
  ⟨⟨.mv (.slot 2), some 40, none⟩, []⟩,
  ⟨⟨.bin .eql 3 .num (.slot 39) (.slot 40), some 41, none⟩, []⟩]
def r97_7 : List XLine := [⟨⟨.mv (.const (.bool true)), some 8, none⟩, []⟩]
def r97_8 : List XLine := [⟨⟨.mv (.slot 2), some 42, none⟩, []⟩,
  ⟨⟨.mv (.slot 1), some 43, none⟩, []⟩,
  ⟨⟨.bin .sub 3 .num (.slot 42) (.slot 43), some 44, none⟩, []⟩,
  ⟨⟨.bin .lss 3 .num (.slot 44) (.const (.int .i64 (.ofNat 50))), some 45, none⟩, []⟩]
def r97_9 : List XLine := [⟨⟨.mv (.const (.bool false)), some 8, none⟩, []⟩]
def r97_10 : List XLine := [⟨⟨.mv (.slot 0), some 46, none⟩, []⟩,
  ⟨⟨.mv (.slot 9), some 47, none⟩, []⟩,
  ⟨⟨.mv (.slot 0), some 48, none⟩, []⟩,
  ⟨⟨.mv (.slot 9), some 49, none⟩, []⟩,
  ⟨⟨.bin .sub 3 .num (.slot 49) (.const (.int .i64 (.ofNat 1))), some 50, none⟩, []⟩,
  ⟨⟨.mv (.slot 0), some 51, none⟩, []⟩,
  ⟨⟨.mv (.slot 9), some 52, none⟩, []⟩,
  ⟨⟨.bin .sub 3 .num (.slot 52) (.const (.int .i64 (.ofNat 1))), some 53, none⟩, []⟩,
  ⟨⟨.iaddr 1 (.slot 51) (.slot 53), some 54, none⟩, []⟩,
  ⟨⟨.load false 1 (.slot 54), some 55, none⟩, []⟩,
  ⟨⟨.mv (.slot 0), some 56, none⟩, []⟩,
  ⟨⟨.mv (.slot 9), some 57, none⟩, []⟩,
  ⟨⟨.iaddr 1 (.slot 56) (.slot 57), some 58, none⟩, []⟩,
  ⟨⟨.load false 1 (.slot 58), some 59, none⟩, []⟩,
  ⟨⟨.iaddr 1 (.slot 46) (.slot 47), some 60, none⟩, []⟩,
  ⟨⟨.store 1 (.slot 60) (.slot 55), none, none⟩, []⟩,
  ⟨⟨.iaddr 1 (.slot 48) (.slot 50), some 61, none⟩, []⟩,
  ⟨⟨.store 1 (.slot 61) (.slot 59), none, none⟩, []⟩]
def r97_11 : List XLine := [⟨⟨.mv (.slot 9), some 62, none⟩, []⟩,
  ⟨⟨.mv (.slot 1), some 63, none⟩, []⟩,
  ⟨⟨.bin .sub 3 .num (.slot 62) (.slot 63), some 64, none⟩, []⟩,
  ⟨⟨.bin .geq 3 .num (.slot 64) (.const (.int .i64 (.ofNat 2))), some 65, none⟩, []⟩]
def r97_12 : List XLine := [⟨⟨.mv (.slot 9), some 66, none⟩, []⟩,
  ⟨⟨.bin .sub 3 .num (.slot 66) (.const (.int .i64 (.ofNat 1))), some 67, none⟩, []⟩,
  ⟨⟨.mv (.slot 67), some 11, none⟩, []⟩]
def r97_13 : List XLine := [⟨⟨.mv (.slot 11), some 68, none⟩, []⟩,
  ⟨⟨.bin .geq 3 .num (.slot 68) (.const (.int .i64 (.ofNat 1))), some 69, none⟩, []⟩]
def r97_14 : List XLine := [⟨⟨.mv (.slot 3), some 72, none⟩, []⟩,
  ⟨⟨.mv (.slot 0), some 73, none⟩, []⟩,
  ⟨⟨.mv (.slot 11), some 74, none⟩, []⟩,
  ⟨⟨.iaddr 1 (.slot 73) (.slot 74), some 75, none⟩, []⟩,
  ⟨⟨.load false 1 (.slot 75), some 76, none⟩, []⟩,
  ⟨⟨.mv (.slot 0), some 77, none⟩, []⟩,
  ⟨⟨.mv (.slot 11), some 78, none⟩, []⟩,
  ⟨⟨.bin .sub 3 .num (.slot 78) (.const (.int .i64 (.ofNat 1))), some 79, none⟩, []⟩,
  ⟨⟨.iaddr 1 (.slot 77) (.slot 79), some 80, none⟩, []⟩,
  ⟨⟨.load false 1 (.slot 80), some 81, none⟩, []⟩,
  ⟨⟨.call (.slot 72) [(.slot 76), (.slot 81)], some 82, none⟩, []⟩,
  ⟨⟨.bin .lss 3 .num (.slot 82) (.const (.int .i64 (.ofNat 0))), some 83, none⟩, []⟩,
  ⟨⟨.un .not (.slot 83), some 84, none⟩, []⟩]
def r97_15 : List XLine := [⟨⟨.mv (.slot 0), some 85, none⟩, []⟩,
  ⟨⟨.mv (.slot 11), some 86, none⟩, []⟩,
  ⟨⟨.mv (.slot 0), some 87, none⟩, []⟩,
  ⟨⟨.mv (.slot 11), some 88, none⟩, []⟩,
  ⟨⟨.bin .sub 3 .num (.slot 88) (.const (.int .i64 (.ofNat 1))), some 89, none⟩, []⟩,
  ⟨⟨.mv (.slot 0), some 90, none⟩, []⟩,
  ⟨⟨.mv (.slot 11), some 91, none⟩, []⟩,
  ⟨⟨.bin .sub 3 .num (.slot 91) (.const (.int .i64 (.ofNat 1))), some 92, none⟩, []⟩,
  ⟨⟨.iaddr 1 (.slot 90) (.slot 92), some 93, none⟩, []⟩,
  ⟨⟨.load false 1 (.slot 93), some 94, none⟩, []⟩,
  ⟨⟨.mv (.slot 0), some 95, none⟩, []⟩,
  ⟨⟨.mv (.slot 11), some 96, none⟩, []⟩,
  ⟨⟨.iaddr 1 (.slot 95) (.slot 96), some 97, none⟩, []⟩,
  ⟨⟨.load false 1 (.slot 97), some 98, none⟩, []⟩,
  ⟨⟨.iaddr 1 (.slot 85) (.slot 86), some 99, none⟩, []⟩,
  ⟨⟨.store 1 (.slot 99) (.slot 94), none, none⟩, []⟩,
  ⟨⟨.iaddr 1 (.slot 87) (.slot 89), some 100, none⟩, []⟩,
  ⟨⟨.store 1 (.slot 100) (.slot 98), none, none⟩, []⟩]
def r97_16 : List XLine := [⟨⟨.mv (.slot 11), some 70, none⟩, []⟩,
  ⟨⟨.bin .sub 3 .num (.slot 70) (.const (.int .i64 (.ofNat 1))), some 71, none⟩, []⟩,
  ⟨⟨.mv (.slot 71), some 11, none⟩, []⟩]
def r97_17 : List XLine := [⟨⟨.mv (.slot 2), some 101, none⟩, []⟩,
  ⟨⟨.mv (.slot 9), some 102, none⟩, []⟩,
  ⟨⟨.bin .sub 3 .num (.slot 101) (.slot 102), some 103, none⟩, []⟩,
  ⟨⟨.bin .geq 3 .num (.slot 103) (.const (.int .i64 (.ofNat 2))), some 104, none⟩, []⟩]
def r97_18 : List XLine := [⟨⟨.mv (.slot 9), some 105, none⟩, []⟩,
  ⟨⟨.bin .add 3 .num (.slot 105) (.const (.int .i64 (.ofNat 1))), some 106, none⟩, []⟩,
  ⟨⟨.mv (.slot 106), some 12, none⟩, []⟩]
def r97_19 : List XLine := [⟨⟨.mv (.slot 12), some 107, none⟩, []⟩,
  ⟨⟨.mv (.slot 2), some 108, none⟩, []⟩,
  ⟨⟨.bin .lss 3 .num (.slot 107) (.slot 108), some 109, none⟩, []⟩]
def r97_20 : List XLine := [⟨⟨.mv (.slot 3), some 112, none⟩, []⟩,
  ⟨⟨.mv (.slot 0), some 113, none⟩, []⟩,
  ⟨⟨.mv (.slot 12), some 114, none⟩, []⟩,
  ⟨⟨.iaddr 1 (.slot 113) (.slot 114), some 115, none⟩, []⟩,
  ⟨⟨.load false 1 (.slot 115), some 116, none⟩, []⟩,
  ⟨⟨.mv (.slot 0), some 117, none⟩, []⟩,
  ⟨⟨.mv (.slot 12), some 118, none⟩, []⟩,
  ⟨⟨.bin .sub 3 .num (.slot 118) (.const (.int .i64 (.ofNat 1))), some 119, none⟩, []⟩,
  ⟨⟨.iaddr 1 (.slot 117) (.slot 119), some 120, none⟩, []⟩,
  ⟨⟨.load false 1 (.slot 120), some 121, none⟩, []⟩,
  ⟨⟨.call (.slot 112) [(.slot 116), (.slot 121)], some 122, none⟩, []⟩,
  ⟨⟨.bin .lss 3 .num (.slot 122) (.const (.int .i64 (.ofNat 0))), some 123, none⟩, []⟩,
  ⟨⟨.un .not (.slot 123), some 124, none⟩, []⟩]
def r97_21 : List XLine := [⟨⟨.mv (.slot 0), some 125, none⟩, []⟩,
  ⟨⟨.mv (.slot 12), some 126, none⟩, []⟩,
  ⟨⟨.mv (.slot 0), some 127, none⟩, []⟩,
  ⟨⟨.mv (.slot 12), some 128, none⟩, []⟩,
  ⟨⟨.bin .sub 3 .num (.slot 128) (.const (.int .i64 (.ofNat 1))), some 129, none⟩, []⟩,
  ⟨⟨.mv (.slot 0), some 130, none⟩, []⟩,
  ⟨⟨.mv (.slot 12), some 131, none⟩, []⟩,
  ⟨⟨.bin .sub 3 .num (.slot 131) (.const (.int .i64 (.ofNat 1))), some 132, none⟩, []⟩,
  ⟨⟨.iaddr 1 (.slot 130) (.slot 132), some 133, none⟩, []⟩,
  ⟨⟨.load false 1 (.slot 133), some 134, none⟩, []⟩,
  ⟨⟨.mv (.slot 0), some 135, none⟩, []⟩,
  ⟨⟨.mv (.slot 12), some 136, none⟩, []⟩,
  ⟨⟨.iaddr 1 (.slot 135) (.slot 136), some 137, none⟩, []⟩,
  ⟨⟨.load false 1 (.slot 137), some 138, none⟩, []⟩,
  ⟨⟨.iaddr 1 (.slot 125) (.slot 126), some 139, none⟩, []⟩,
  ⟨⟨.store 1 (.slot 139) (.slot 134), none, none⟩, []⟩,
  ⟨⟨.iaddr 1 (.slot 127) (.slot 129), some 140, none⟩, []⟩,
  ⟨⟨.store 1 (.slot 140) (.slot 138), none, none⟩, []⟩]
def r97_22 : List XLine := [⟨⟨.mv (.slot 12), some 110, none⟩, []⟩,
  ⟨⟨.bin .add 3 .num (.slot 110) (.const (.int .i64 (.ofNat 1))), some 111, none⟩, []⟩,
  ⟨⟨.mv (.slot 111), some 12, none⟩, []⟩]
def r97_23 : List XLine := [⟨⟨.mv (.slot 10), some 17, none⟩, []⟩,
  ⟨⟨.bin .add 3 .num (.slot 17) (.const (.int .i64 (.ofNat 1))), some 18, none⟩, []⟩,
  ⟨⟨.mv (.slot 18), some 10, none⟩, []⟩]
def r97_24 : List XLine := [⟨⟨.mv (.const (.bool false)), some 8, none⟩, []⟩]
def xf97 : XFunc := ⟨(.seq (.region false r97_0)
  (.seq (.region false r97_1)
  (.seq (.seq (.region false r97_2)
  (.block 0 (.loop (.seq (.seq (.region false r97_3)
  (.cond (.slot 16)
  .skip
  (.exit 0)))
  (.seq (.block 1 (.seq (.block 2 (.loop (.seq (.seq (.region true r97_4)
  (.cond (.slot 36)
  .skip
  (.exit 2)))
  (.block 3 (.region false r97_5)))))
  (.seq (.seq (.region false r97_6)
  (.cond (.slot 41)
  (.seq (.region false r97_7)
  .ret)
  .skip))
  (.seq (.seq (.region false r97_8)
  (.cond (.slot 45)
  (.seq (.region false r97_9)
  .ret)
  .skip))
  (.seq (.region true r97_10)
  (.seq (.seq (.region false r97_11)
  (.cond (.slot 65)
  (.seq (.region false r97_12)
  (.block 4 (.loop (.seq (.seq (.region false r97_13)
  (.cond (.slot 69)
  .skip
  (.exit 4)))
  (.seq (.block 5 (.seq (.seq (.region true r97_14)
  (.cond (.slot 84)
  (.exit 4)
  .skip))
  (.region true r97_15)))
  (.region false r97_16))))))
  .skip))
  (.seq (.region false r97_17)
  (.cond (.slot 104)
  (.seq (.region false r97_18)
  (.block 6 (.loop (.seq (.seq (.region false r97_19)
  (.cond (.slot 109)
  .skip
  (.exit 6)))
  (.seq (.block 7 (.seq (.seq (.region true r97_20)
  (.cond (.slot 124)
  (.exit 6)
  .skip))
  (.region true r97_21)))
  (.region false r97_22))))))
  .skip))))))))
  (.region false r97_23))))))
  (.seq (.region false r97_24)
  .ret)))),
  [.tmp 8]⟩
theorem xf97_ok : compFunc Tryz.prog Tryz.f97 = some xf97 := by kernel_rfl
/- slices.partitionEqualCmpFunc[threshing/api.Lit] -/
def r98_0 : List XLine := [⟨⟨.mv (.const (.int .i64 (.ofNat 0))), some 10, none⟩, []⟩]
def r98_1 : List XLine := [⟨⟨.mv (.slot 0), some 13, none⟩, []⟩,
  ⟨⟨.mv (.slot 1), some 14, none⟩, []⟩,
  ⟨⟨.mv (.slot 0), some 15, none⟩, []⟩,
  ⟨⟨.mv (.slot 3), some 16, none⟩, []⟩,
  ⟨⟨.mv (.slot 0), some 17, none⟩, []⟩,
  ⟨⟨.mv (.slot 3), some 18, none⟩, []⟩,
  ⟨⟨.iaddr 1 (.slot 17) (.slot 18), some 19, none⟩, []⟩,
  ⟨⟨.load false 1 (.slot 19), some 20, none⟩, []⟩,
  ⟨⟨.mv (.slot 0), some 21, none⟩, []⟩,
  ⟨⟨.mv (.slot 1), some 22, none⟩, []⟩,
  ⟨⟨.iaddr 1 (.slot 21) (.slot 22), some 23, none⟩, []⟩,
  ⟨⟨.load false 1 (.slot 23), some 24, none⟩, []⟩,
  ⟨⟨.iaddr 1 (.slot 13) (.slot 14), some 25, none⟩, []⟩,
  ⟨⟨.store 1 (.slot 25) (.slot 20), none, none⟩, []⟩,
  ⟨⟨.iaddr 1 (.slot 15) (.slot 16), some 26, none⟩, []⟩,
  ⟨⟨.store 1 (.slot 26) (.slot 24), none, none⟩, []⟩]
def r98_2 : List XLine := [⟨⟨.mv (.slot 1), some 27, none⟩, []⟩,
  ⟨⟨.bin .add 3 .num (.slot 27) (.const (.int .i64 (.ofNat 1))), some 28, none⟩, []⟩,
  ⟨⟨.mv (.slot 2), some 29, none⟩, []⟩,
  ⟨⟨.bin .sub 3 .num (.slot 29) (.const (.int .i64 (.ofNat 1))), some 30, none⟩, []⟩,
  ⟨⟨.mv (.slot 28), some 11, none⟩, []⟩,
  ⟨⟨.mv (.slot 30), some 12, none⟩, []⟩]
def r98_3 : List XLine := [⟨⟨.mv (.slot 11), some 31, none⟩, []⟩,
  ⟨⟨.mv (.slot 12), some 32, none⟩, []⟩,
  ⟨⟨.bin .leq 3 .num (.slot 31) (.slot 32), some 33, none⟩, []⟩,
  ⟨⟨.mv (.slot 33), some 34, none⟩, []⟩,
  ⟨⟨.mv (.slot 4), some 35, some (34, true)⟩, []⟩,
  ⟨⟨.mv (.slot 0), some 36, some (34, true)⟩, []⟩,
  ⟨⟨.mv (.slot 1), some 37, some (34, true)⟩, []⟩,
  ⟨⟨.iaddr 1 (.slot 36) (.slot 37), some 38, some (34, true)⟩, []⟩,
  ⟨⟨.load false 1 (.slot 38), some 39, some (34, true)⟩, []⟩,
  ⟨⟨.mv (.slot 0), some 40, some (34, true)⟩, []⟩,
  ⟨⟨.mv (.slot 11), some 41, some (34, true)⟩, []⟩,
  ⟨⟨.iaddr 1 (.slot 40) (.slot 41), some 42, some (34, true)⟩, []⟩,
  ⟨⟨.load false 1 (.slot 42), some 43, some (34, true)⟩, []⟩,
  ⟨⟨.call (.slot 35) [(.slot 39), (.slot 43)], some 44, some (34, true)⟩, []⟩,
  ⟨⟨.bin .lss 3 .num (.slot 44) (.const (.int .i64 (.ofNat 0))), some 45, some (34, true)⟩, []⟩,
  ⟨⟨.un .not (.slot 45), some 46, some (34, true)⟩, []⟩,
  ⟨⟨.pick (.slot 34) (.slot 46) (.const (.bool false)), some 47, none⟩, []⟩]
def r98_4 : List XLine := [⟨⟨.mv (.slot 11), some 48, none⟩, []⟩,
  ⟨⟨.bin .add 3 .num (.slot 48) (.const (.int .i64 (.ofNat 1))), some 49, none⟩, []⟩,
  ⟨⟨.mv (.slot 49), some 11, none⟩, []⟩]
def r98_5 : List XLine := [⟨⟨.mv (.slot 11), some 50, none⟩, []⟩,
  ⟨⟨.mv (.slot 12), some 51, none⟩, []⟩,
  ⟨⟨.bin .leq 3 .num (.slot 50) (.slot 51), some 52, none⟩, []⟩,
  ⟨⟨.mv (.slot 52), some 53, none⟩, []⟩,
  ⟨⟨.mv (.slot 4), some 54, some (53, true)⟩, []⟩,
  ⟨⟨.mv (.slot 0), some 55, some (53, true)⟩, []⟩,
  ⟨⟨.mv (.slot 1), some 56, some (53, true)⟩, []⟩,
  ⟨⟨.iaddr 1 (.slot 55) (.slot 56), some 57, some (53, true)⟩, []⟩,
  ⟨⟨.load false 1 (.slot 57), some 58, some (53, true)⟩, []⟩,
  ⟨⟨.mv (.slot 0), some 59, some (53, true)⟩, []⟩,
  ⟨⟨.mv (.slot 12), some 60, some (53, true)⟩, []⟩,
  ⟨⟨.iaddr 1 (.slot 59) (.slot 60), some 61, some (53, true)⟩, []⟩,
  ⟨⟨.load false 1 (.slot 61), some 62, some (53, true)⟩, []⟩,
  ⟨⟨.call (.slot 54) [(.slot 58), (.slot 62)], some 63, some (53, true)⟩, []⟩,
  ⟨⟨.bin .lss 3 .num (.slot 63) (.const (.int .i64 (.ofNat 0))), some 64, some (53, true)⟩, []⟩,
  ⟨⟨.pick (.slot 53) (.slot 64) (.const (.bool false)), some 65, none⟩, []⟩]
def r98_6 : List XLine := [⟨⟨.mv (.slot 12), some 66, none⟩, []⟩,
  ⟨⟨.bin .sub 3 .num (.slot 66) (.const (.int .i64 (.ofNat 1))), some 67, none⟩, []⟩,
  ⟨⟨.mv (.slot 67), some 12, none⟩, []⟩]
def r98_7 : List XLine := [⟨⟨.mv (.slot 11), some 68, none⟩, []⟩,
  ⟨⟨.mv (.slot 12), some 69, none⟩, []⟩,
  ⟨⟨.bin .gtr 3 .num (.slot 68) (.slot 69), some 70, none⟩, []⟩]
def r98_8 : List XLine := [⟨⟨.mv (.slot 0), some 71, none⟩, []⟩,
  ⟨⟨.mv (.slot 11), some 72, none⟩, []⟩,
  ⟨⟨.mv (.slot 0), some 73, none⟩, []⟩,
  ⟨⟨.mv (.slot 12), some 74, none⟩, []⟩,
  ⟨⟨.mv (.slot 0), some 75, none⟩, []⟩,
  ⟨⟨.mv (.slot 12), some 76, none⟩, []⟩,
  ⟨⟨.iaddr 1 (.slot 75) (.slot 76), some 77, none⟩, []⟩,
  ⟨⟨.load false 1 (.slot 77), some 78, none⟩, []⟩,
  ⟨⟨.mv (.slot 0), some 79, none⟩, []⟩,
  ⟨⟨.mv (.slot 11), some 80, none⟩, []⟩,
  ⟨⟨.iaddr 1 (.slot 79) (.slot 80), some 81, none⟩, []⟩,
  ⟨⟨.load false 1 (.slot 81), some 82, none⟩, []⟩,
  ⟨⟨.iaddr 1 (.slot 71) (.slot 72), some 83, none⟩, []⟩,
  ⟨⟨.store 1 (.slot 83) (.slot 78), none, none⟩, []⟩,
  ⟨⟨.iaddr 1 (.slot 73) (.slot 74), some 84, none⟩, []⟩,
  ⟨⟨.store 1 (.slot 84) (.slot 82), none, none⟩, []⟩]
def r98_9 : List XLine := [⟨⟨.mv (.slot 11), some 85, none⟩, []⟩,
  ⟨⟨.bin .add 3 .num (.slot 85) (.const (.int .i64 (.ofNat 1))), some 86, none⟩, []⟩,
  ⟨⟨.mv (.slot 86), some 11, none⟩, []⟩]
def r98_10 : List XLine := [⟨⟨.mv (.slot 12), some 87, none⟩, []⟩,
  ⟨⟨.bin .sub 3 .num (.slot 87) (.const (.int .i64 (.ofNat 1))), some 88, none⟩, []⟩,
  ⟨⟨.mv (.slot 88), some 12, none⟩, []⟩]
def r98_11 : List XLine := [⟨⟨.mv (.slot 11), some 89, none⟩, []⟩,
  ⟨⟨.mv (.slot 89), some 10, none⟩, []⟩]
def xf98 : XFunc := ⟨(.seq (.region false r98_0)
  (.seq (.region true r98_1)
  (.seq (.region false r98_2)
  (.seq (.block 0 (.loop (.block 1 (.seq (.block 2 (.loop (.seq (.seq (.region true r98_3)
  (.cond (.slot 47)
  .skip
  (.exit 2)))
  (.block 3 (.region false r98_4)))))
  (.seq (.block 4 (.loop (.seq (.seq (.region true r98_5)
  (.cond (.slot 65)
  .skip
  (.exit 4)))
  (.block 5 (.region false r98_6)))))
  (.seq (.seq (.region false r98_7)
  (.cond (.slot 70)
  (.exit 0)
  .skip))
  (.seq (.region true r98_8)
  (.seq (.region false r98_9)
  (.region false r98_10)))))))))
  (.seq (.region false r98_11)
  .ret))))),
  [.tmp 10]⟩
theorem xf98_ok : compFunc Tryz.prog Tryz.f98 = some xf98 := by kernel_rfl
end Go.Proofs.YtpbijmmjcdejoaaGreat

/- The functions of the program in X's code, printed by a program of ours; each is what the program's own is turned to. -/
import Derived.Test.YtcpkfdabkpeomaaGreatProg
import Derived.Test.YtcpkfdabkpeomaaGreatW0
import Derived.KernelRfl
namespace Go.Proofs.YtcpkfdabkpeomaaGreat
open Go.Xr
/- cmp.Less[int64] -/
def r91_0 : List XLine := [⟨⟨.mv (.const (.bool false)), some 4, none⟩, []⟩]
def r91_1 : List XLine := [⟨⟨.mv (.slot 0), some 5, none⟩, []⟩,
  ⟨⟨.call (.const (.func 114 [] [])) [(.slot 5)], some 6, none⟩, []⟩,
  ⟨⟨.mv (.slot 6), some 7, none⟩, []⟩,
  ⟨⟨.mv (.slot 1), some 8, some (7, true)⟩, []⟩,
  ⟨⟨.call (.const (.func 114 [] [])) [(.slot 8)], some 9, some (7, true)⟩, []⟩,
  ⟨⟨.un .not (.slot 9), some 10, some (7, true)⟩, []⟩,
  ⟨⟨.pick (.slot 7) (.slot 10) (.const (.bool false)), some 11, none⟩, []⟩,
  ⟨⟨.mv (.slot 11), some 12, none⟩, []⟩,
  ⟨⟨.mv (.slot 0), some 13, some (12, false)⟩, []⟩,
  ⟨⟨.mv (.slot 1), some 14, some (12, false)⟩, []⟩,
  ⟨⟨.bin .lss 2 .num (.slot 13) (.slot 14), some 15, some (12, false)⟩, []⟩,
  ⟨⟨.pick (.slot 12) (.const (.bool true)) (.slot 15), some 16, none⟩, []⟩,
  ⟨⟨.mv (.slot 16), some 4, none⟩, []⟩]
def xf91 : XFunc := ⟨(.seq (.region false r91_0)
  (.seq (.region false r91_1)
  .ret)),
  [.tmp 4]⟩
theorem xf91_ok : compFunc Tryz.prog Tryz.f91 = some xf91 := by kernel_rfl
/- slices.partitionEqualOrdered[int64] -/
def r92_0 : List XLine := [⟨⟨.mv (.const (.int .i64 (.ofNat 0))), some 8, none⟩, []⟩]
def r92_1 : List XLine := [⟨⟨.mv (.slot 0), some 11, none⟩, []⟩,
  ⟨⟨.mv (.slot 1), some 12, none⟩, []⟩,
  ⟨⟨.mv (.slot 0), some 13, none⟩, []⟩,
  ⟨⟨.mv (.slot 3), some 14, none⟩, []⟩,
  ⟨⟨.mv (.slot 0), some 15, none⟩, []⟩,
  ⟨⟨.mv (.slot 3), some 16, none⟩, []⟩,
  ⟨⟨.iaddr 1 (.slot 15) (.slot 16), some 17, none⟩, []⟩,
  ⟨⟨.load false 1 (.slot 17), some 18, none⟩, []⟩,
  ⟨⟨.mv (.slot 0), some 19, none⟩, []⟩,
  ⟨⟨.mv (.slot 1), some 20, none⟩, []⟩,
  ⟨⟨.iaddr 1 (.slot 19) (.slot 20), some 21, none⟩, []⟩,
  ⟨⟨.load false 1 (.slot 21), some 22, none⟩, []⟩,
  ⟨⟨.iaddr 1 (.slot 11) (.slot 12), some 23, none⟩, []⟩,
  ⟨⟨.store 1 (.slot 23) (.slot 18), none, none⟩, []⟩,
  ⟨⟨.iaddr 1 (.slot 13) (.slot 14), some 24, none⟩, []⟩,
  ⟨⟨.store 1 (.slot 24) (.slot 22), none, none⟩, []⟩]
def r92_2 : List XLine := [⟨⟨.mv (.slot 1), some 25, none⟩, []⟩,
  ⟨⟨.bin .add 3 .num (.slot 25) (.const (.int .i64 (.ofNat 1))), some 26, none⟩, []⟩,
  ⟨⟨.mv (.slot 2), some 27, none⟩, []⟩,
  ⟨⟨.bin .sub 3 .num (.slot 27) (.const (.int .i64 (.ofNat 1))), some 28, none⟩, []⟩,
  ⟨⟨.mv (.slot 26), some 9, none⟩, []⟩,
  ⟨⟨.mv (.slot 28), some 10, none⟩, []⟩]
def r92_3 : List XLine := [⟨⟨.mv (.slot 9), some 29, none⟩, []⟩,
  ⟨⟨.mv (.slot 10), some 30, none⟩, []⟩,
  ⟨⟨.bin .leq 3 .num (.slot 29) (.slot 30), some 31, none⟩, []⟩,
  ⟨⟨.mv (.slot 31), some 32, none⟩, []⟩,
  ⟨⟨.mv (.slot 0), some 33, some (32, true)⟩, []⟩,
  ⟨⟨.mv (.slot 1), some 34, some (32, true)⟩, []⟩,
  ⟨⟨.iaddr 1 (.slot 33) (.slot 34), some 35, some (32, true)⟩, []⟩,
  ⟨⟨.load false 1 (.slot 35), some 36, some (32, true)⟩, []⟩,
  ⟨⟨.mv (.slot 0), some 37, some (32, true)⟩, []⟩,
  ⟨⟨.mv (.slot 9), some 38, some (32, true)⟩, []⟩,
  ⟨⟨.iaddr 1 (.slot 37) (.slot 38), some 39, some (32, true)⟩, []⟩,
  ⟨⟨.load false 1 (.slot 39), some 40, some (32, true)⟩, []⟩,
  ⟨⟨.call (.const (.func 91 [] [])) [(.slot 36), (.slot 40)], some 41, some (32, true)⟩, []⟩,
  ⟨⟨.un .not (.slot 41), some 42, some (32, true)⟩, []⟩,
  ⟨⟨.pick (.slot 32) (.slot 42) (.const (.bool false)), some 43, none⟩, []⟩]
def r92_4 : List XLine := [⟨⟨.mv (.slot 9), some 44, none⟩, []⟩,
  ⟨⟨.bin .add 3 .num (.slot 44) (.const (.int .i64 (.ofNat 1))), some 45, none⟩, []⟩,
  ⟨⟨.mv (.slot 45), some 9, none⟩, []⟩]
def r92_5 : List XLine := [⟨⟨.mv (.slot 9), some 46, none⟩, []⟩,
  ⟨⟨.mv (.slot 10), some 47, none⟩, []⟩,
  ⟨⟨.bin .leq 3 .num (.slot 46) (.slot 47), some 48, none⟩, []⟩,
  ⟨⟨.mv (.slot 48), some 49, none⟩, []⟩,
  ⟨⟨.mv (.slot 0), some 50, some (49, true)⟩, []⟩,
  ⟨⟨.mv (.slot 1), some 51, some (49, true)⟩, []⟩,
  ⟨⟨.iaddr 1 (.slot 50) (.slot 51), some 52, some (49, true)⟩, []⟩,
  ⟨⟨.load false 1 (.slot 52), some 53, some (49, true)⟩, []⟩,
  ⟨⟨.mv (.slot 0), some 54, some (49, true)⟩, []⟩,
  ⟨⟨.mv (.slot 10), some 55, some (49, true)⟩, []⟩,
  ⟨⟨.iaddr 1 (.slot 54) (.slot 55), some 56, some (49, true)⟩, []⟩,
  ⟨⟨.load false 1 (.slot 56), some 57, some (49, true)⟩, []⟩,
  ⟨⟨.call (.const (.func 91 [] [])) [(.slot 53), (.slot 57)], some 58, some (49, true)⟩, []⟩,
  ⟨⟨.pick (.slot 49) (.slot 58) (.const (.bool false)), some 59, none⟩, []⟩]
def r92_6 : List XLine := [⟨⟨.mv (.slot 10), some 60, none⟩, []⟩,
  ⟨⟨.bin .sub 3 .num (.slot 60) (.const (.int .i64 (.ofNat 1))), some 61, none⟩, []⟩,
  ⟨⟨.mv (.slot 61), some 10, none⟩, []⟩]
def r92_7 : List XLine := [⟨⟨.mv (.slot 9), some 62, none⟩, []⟩,
  ⟨⟨.mv (.slot 10), some 63, none⟩, []⟩,
  ⟨⟨.bin .gtr 3 .num (.slot 62) (.slot 63), some 64, none⟩, []⟩]
def r92_8 : List XLine := [⟨⟨.mv (.slot 0), some 65, none⟩, []⟩,
  ⟨⟨.mv (.slot 9), some 66, none⟩, []⟩,
  ⟨⟨.mv (.slot 0), some 67, none⟩, []⟩,
  ⟨⟨.mv (.slot 10), some 68, none⟩, []⟩,
  ⟨⟨.mv (.slot 0), some 69, none⟩, []⟩,
  ⟨⟨.mv (.slot 10), some 70, none⟩, []⟩,
  ⟨⟨.iaddr 1 (.slot 69) (.slot 70), some 71, none⟩, []⟩,
  ⟨⟨.load false 1 (.slot 71), some 72, none⟩, []⟩,
  ⟨⟨.mv (.slot 0), some 73, none⟩, []⟩,
  ⟨⟨.mv (.slot 9), some 74, none⟩, []⟩,
  ⟨⟨.iaddr 1 (.slot 73) (.slot 74), some 75, none⟩, []⟩,
  ⟨⟨.load false 1 (.slot 75), some 76, none⟩, []⟩,
  ⟨⟨.iaddr 1 (.slot 65) (.slot 66), some 77, none⟩, []⟩,
  ⟨⟨.store 1 (.slot 77) (.slot 72), none, none⟩, []⟩,
  ⟨⟨.iaddr 1 (.slot 67) (.slot 68), some 78, none⟩, []⟩,
  ⟨⟨.store 1 (.slot 78) (.slot 76), none, none⟩, []⟩]
def r92_9 : List XLine := [⟨⟨.mv (.slot 9), some 79, none⟩, []⟩,
  ⟨⟨.bin .add 3 .num (.slot 79) (.const (.int .i64 (.ofNat 1))), some 80, none⟩, []⟩,
  ⟨⟨.mv (.slot 80), some 9, none⟩, []⟩]
def r92_10 : List XLine := [⟨⟨.mv (.slot 10), some 81, none⟩, []⟩,
  ⟨⟨.bin .sub 3 .num (.slot 81) (.const (.int .i64 (.ofNat 1))), some 82, none⟩, []⟩,
  ⟨⟨.mv (.slot 82), some 10, none⟩, []⟩]
def r92_11 : List XLine := [⟨⟨.mv (.slot 9), some 83, none⟩, []⟩,
  ⟨⟨.mv (.slot 83), some 8, none⟩, []⟩]
def xf92 : XFunc := ⟨(.seq (.region false r92_0)
  (.seq (.region true r92_1)
  (.seq (.region false r92_2)
  (.seq (.block 0 (.loop (.block 1 (.seq (.block 2 (.loop (.seq (.seq (.region true r92_3)
  (.cond (.slot 43)
  .skip
  (.exit 2)))
  (.block 3 (.region false r92_4)))))
  (.seq (.block 4 (.loop (.seq (.seq (.region true r92_5)
  (.cond (.slot 59)
  .skip
  (.exit 4)))
  (.block 5 (.region false r92_6)))))
  (.seq (.seq (.region false r92_7)
  (.cond (.slot 64)
  (.exit 0)
  .skip))
  (.seq (.region true r92_8)
  (.seq (.region false r92_9)
  (.region false r92_10)))))))))
  (.seq (.region false r92_11)
  .ret))))),
  [.tmp 8]⟩
theorem xf92_ok : compFunc Tryz.prog Tryz.f92 = some xf92 := by kernel_rfl
/- slices.partitionOrdered[int64] -/
def r93_0 : List XLine := [⟨⟨.mv (.const (.int .i64 (.ofNat 0))), some 8, none⟩, []⟩,
  ⟨⟨.mv (.const (.bool false)), some 9, none⟩, []⟩]
def r93_1 : List XLine := [⟨⟨.mv (.slot 0), some 12, none⟩, []⟩,
  ⟨⟨.mv (.slot 1), some 13, none⟩, []⟩,
  ⟨⟨.mv (.slot 0), some 14, none⟩, []⟩,
  ⟨⟨.mv (.slot 3), some 15, none⟩, []⟩,
  ⟨⟨.mv (.slot 0), some 16, none⟩, []⟩,
  ⟨⟨.mv (.slot 3), some 17, none⟩, []⟩,
  ⟨⟨.iaddr 1 (.slot 16) (.slot 17), some 18, none⟩, []⟩,
  ⟨⟨.load false 1 (.slot 18), some 19, none⟩, []⟩,
  ⟨⟨.mv (.slot 0), some 20, none⟩, []⟩,
  ⟨⟨.mv (.slot 1), some 21, none⟩, []⟩,
  ⟨⟨.iaddr 1 (.slot 20) (.slot 21), some 22, none⟩, []⟩,
  ⟨⟨.load false 1 (.slot 22), some 23, none⟩, []⟩,
  ⟨⟨.iaddr 1 (.slot 12) (.slot 13), some 24, none⟩, []⟩,
  ⟨⟨.store 1 (.slot 24) (.slot 19), none, none⟩, []⟩,
  ⟨⟨.iaddr 1 (.slot 14) (.slot 15), some 25, none⟩, []⟩,
  ⟨⟨.store 1 (.slot 25) (.slot 23), none, none⟩, []⟩]
def r93_2 : List XLine := [⟨⟨.mv (.slot 1), some 26, none⟩, []⟩,
  ⟨⟨.bin .add 3 .num (.slot 26) (.const (.int .i64 (.ofNat 1))), some 27, none⟩, []⟩,
  ⟨⟨.mv (.slot 2), some 28, none⟩, []⟩,
  ⟨⟨.bin .sub 3 .num (.slot 28) (.const (.int .i64 (.ofNat 1))), some 29, none⟩, []⟩,
  ⟨⟨.mv (.slot 27), some 10, none⟩, []⟩,
  ⟨⟨.mv (.slot 29), some 11, none⟩, []⟩]
def r93_3 : List XLine := [⟨⟨.mv (.slot 10), some 30, none⟩, []⟩,
  ⟨⟨.mv (.slot 11), some 31, none⟩, []⟩,
  ⟨⟨.bin .leq 3 .num (.slot 30) (.slot 31), some 32, none⟩, []⟩,
  ⟨⟨.mv (.slot 32), some 33, none⟩, []⟩,
  ⟨⟨.mv (.slot 0), some 34, some (33, true)⟩, []⟩,
  ⟨⟨.mv (.slot 10), some 35, some (33, true)⟩, []⟩,
  ⟨⟨.iaddr 1 (.slot 34) (.slot 35), some 36, some (33, true)⟩, []⟩,
  ⟨⟨.load false 1 (.slot 36), some 37, some (33, true)⟩, []⟩,
  ⟨⟨.mv (.slot 0), some 38, some (33, true)⟩, []⟩,
  ⟨⟨.mv (.slot 1), some 39, some (33, true)⟩, []⟩,
  ⟨⟨.iaddr 1 (.slot 38) (.slot 39), some 40, some (33, true)⟩, []⟩,
  ⟨⟨.load false 1 (.slot 40), some 41, some (33, true)⟩, []⟩,
  ⟨⟨.call (.const (.func 91 [] [])) [(.slot 37), (.slot 41)], some 42, some (33, true)⟩, []⟩,
  ⟨⟨.pick (.slot 33) (.slot 42) (.const (.bool false)), some 43, none⟩, []⟩]
def r93_4 : List XLine := [⟨⟨.mv (.slot 10), some 44, none⟩, []⟩,
  ⟨⟨.bin .add 3 .num (.slot 44) (.const (.int .i64 (.ofNat 1))), some 45, none⟩, []⟩,
  ⟨⟨.mv (.slot 45), some 10, none⟩, []⟩]
def r93_5 : List XLine := [⟨⟨.mv (.slot 10), some 46, none⟩, []⟩,
  ⟨⟨.mv (.slot 11), some 47, none⟩, []⟩,
  ⟨⟨.bin .leq 3 .num (.slot 46) (.slot 47), some 48, none⟩, []⟩,
  ⟨⟨.mv (.slot 48), some 49, none⟩, []⟩,
  ⟨⟨.mv (.slot 0), some 50, some (49, true)⟩, []⟩,
  ⟨⟨.mv (.slot 11), some 51, some (49, true)⟩, []⟩,
  ⟨⟨.iaddr 1 (.slot 50) (.slot 51), some 52, some (49, true)⟩, []⟩,
  ⟨⟨.load false 1 (.slot 52), some 53, some (49, true)⟩, []⟩,
  ⟨⟨.mv (.slot 0), some 54, some (49, true)⟩, []⟩,
  ⟨⟨.mv (.slot 1), some 55, some (49, true)⟩, []⟩,
  ⟨⟨.iaddr 1 (.slot 54) (.slot 55), some 56, some (49, true)⟩, []⟩,
  ⟨⟨.load false 1 (.slot 56), some 57, some (49, true)⟩, []⟩,
  ⟨⟨.call (.const (.func 91 [] [])) [(.slot 53), (.slot 57)], some 58, some (49, true)⟩, []⟩,
  ⟨⟨.un .not (.slot 58), some 59, some (49, true)⟩, []⟩,
  ⟨⟨.pick (.slot 49) (.slot 59) (.const (.bool false)), some 60, none⟩, []⟩]
def r93_6 : List XLine := [⟨⟨.mv (.slot 11), some 61, none⟩, []⟩,
  ⟨⟨.bin .sub 3 .num (.slot 61) (.const (.int .i64 (.ofNat 1))), some 62, none⟩, []⟩,
  ⟨⟨.mv (.slot 62), some 11, none⟩, []⟩]
def r93_7 : List XLine := [⟨⟨.mv (.slot 10), some 63, none⟩, []⟩,
  ⟨⟨.mv (.slot 11), some 64, none⟩, []⟩,
  ⟨⟨.bin .gtr 3 .num (.slot 63) (.slot 64), some 65, none⟩, []⟩]
def r93_8 : List XLine := [⟨⟨.mv (.slot 0), some 66, none⟩, []⟩,
  ⟨⟨.mv (.slot 11), some 67, none⟩, []⟩,
  ⟨⟨.mv (.slot 0), some 68, none⟩, []⟩,
  ⟨⟨.mv (.slot 1), some 69, none⟩, []⟩,
  ⟨⟨.mv (.slot 0), some 70, none⟩, []⟩,
  ⟨⟨.mv (.slot 1), some 71, none⟩, []⟩,
  ⟨⟨.iaddr 1 (.slot 70) (.slot 71), some 72, none⟩, []⟩,
  ⟨⟨.load false 1 (.slot 72), some 73, none⟩, []⟩,
  ⟨⟨.mv (.slot 0), some 74, none⟩, []⟩,
  ⟨⟨.mv (.slot 11), some 75, none⟩, []⟩,
  ⟨⟨.iaddr 1 (.slot 74) (.slot 75), some 76, none⟩, []⟩,
  ⟨⟨.load false 1 (.slot 76), some 77, none⟩, []⟩,
  ⟨⟨.iaddr 1 (.slot 66) (.slot 67), some 78, none⟩, []⟩,
  ⟨⟨.store 1 (.slot 78) (.slot 73), none, none⟩, []⟩,
  ⟨⟨.iaddr 1 (.slot 68) (.slot 69), some 79, none⟩, []⟩,
  ⟨⟨.store 1 (.slot 79) (.slot 77), none, none⟩, []⟩]
def r93_9 : List XLine := [⟨⟨.mv (.slot 11), some 80, none⟩, []⟩,
  ⟨⟨.mv (.slot 80), some 8, none⟩, []⟩,
  ⟨⟨.mv (.const (.bool true)), some 9, none⟩, []⟩]
def r93_10 : List XLine := [⟨⟨.mv (.slot 0), some 81, none⟩, []⟩,
  ⟨⟨.mv (.slot 10), some 82, none⟩, []⟩,
  ⟨⟨.mv (.slot 0), some 83, none⟩, []⟩,
  ⟨⟨.mv (.slot 11), some 84, none⟩, []⟩,
  ⟨⟨.mv (.slot 0), some 85, none⟩, []⟩,
  ⟨⟨.mv (.slot 11), some 86, none⟩, []⟩,
  ⟨⟨.iaddr 1 (.slot 85) (.slot 86), some 87, none⟩, []⟩,
  ⟨⟨.load false 1 (.slot 87), some 88, none⟩, []⟩,
  ⟨⟨.mv (.slot 0), some 89, none⟩, []⟩,
  ⟨⟨.mv (.slot 10), some 90, none⟩, []⟩,
  ⟨⟨.iaddr 1 (.slot 89) (.slot 90), some 91, none⟩, []⟩,
  ⟨⟨.load false 1 (.slot 91), some 92, none⟩, []⟩,
  ⟨⟨.iaddr 1 (.slot 81) (.slot 82), some 93, none⟩, []⟩,
  ⟨⟨.store 1 (.slot 93) (.slot 88), none, none⟩, []⟩,
  ⟨⟨.iaddr 1 (.slot 83) (.slot 84), some 94, none⟩, []⟩,
  ⟨⟨.store 1 (.slot 94) (.slot 92), none, none⟩, []⟩]
def r93_11 : List XLine := [⟨⟨.mv (.slot 10), some 95, none⟩, []⟩,
  ⟨⟨.bin .add 3 .num (.slot 95) (.const (.int .i64 (.ofNat 1))), some 96, none⟩, []⟩,
  ⟨⟨.mv (.slot 96), some 10, none⟩, []⟩]
def r93_12 : List XLine := [⟨⟨.mv (.slot 11), some 97, none⟩, []⟩,
  ⟨⟨.bin .sub 3 .num (.slot 97) (.const (.int .i64 (.ofNat 1))), some 98, none⟩, []⟩,
  ⟨⟨.mv (.slot 98), some 11, none⟩, []⟩]
def r93_13 : List XLine := [⟨⟨.mv (.slot 10), some 99, none⟩, []⟩,
  ⟨⟨.mv (.slot 11), some 100, none⟩, []⟩,
  ⟨⟨.bin .leq 3 .num (.slot 99) (.slot 100), some 101, none⟩, []⟩,
  ⟨⟨.mv (.slot 101), some 102, none⟩, []⟩,
  ⟨⟨.mv (.slot 0), some 103, some (102, true)⟩, []⟩,
  ⟨⟨.mv (.slot 10), some 104, some (102, true)⟩, []⟩,
  ⟨⟨.iaddr 1 (.slot 103) (.slot 104), some 105, some (102, true)⟩, []⟩,
  ⟨⟨.load false 1 (.slot 105), some 106, some (102, true)⟩, []⟩,
  ⟨⟨.mv (.slot 0), some 107, some (102, true)⟩, []⟩,
  ⟨⟨.mv (.slot 1), some 108, some (102, true)⟩, []⟩,
  ⟨⟨.iaddr 1 (.slot 107) (.slot 108), some 109, some (102, true)⟩, []⟩,
  ⟨⟨.load false 1 (.slot 109), some 110, some (102, true)⟩, []⟩,
  ⟨⟨.call (.const (.func 91 [] [])) [(.slot 106), (.slot 110)], some 111, some (102, true)⟩, []⟩,
  ⟨⟨.pick (.slot 102) (.slot 111) (.const (.bool false)), some 112, none⟩, []⟩]
def r93_14 : List XLine := [⟨⟨.mv (.slot 10), some 113, none⟩, []⟩,
  ⟨⟨.bin .add 3 .num (.slot 113) (.const (.int .i64 (.ofNat 1))), some 114, none⟩, []⟩,
  ⟨⟨.mv (.slot 114), some 10, none⟩, []⟩]
def r93_15 : List XLine := [⟨⟨.mv (.slot 10), some 115, none⟩, []⟩,
  ⟨⟨.mv (.slot 11), some 116, none⟩, []⟩,
  ⟨⟨.bin .leq 3 .num (.slot 115) (.slot 116), some 117, none⟩, []⟩,
  ⟨⟨.mv (.slot 117), some 118, none⟩, []⟩,
  ⟨⟨.mv (.slot 0), some 119, some (118, true)⟩, []⟩,
  ⟨⟨.mv (.slot 11), some 120, some (118, true)⟩, []⟩,
  ⟨⟨.iaddr 1 (.slot 119) (.slot 120), some 121, some (118, true)⟩, []⟩,
  ⟨⟨.load false 1 (.slot 121), some 122, some (118, true)⟩, []⟩,
  ⟨⟨.mv (.slot 0), some 123, some (118, true)⟩, []⟩,
  ⟨⟨.mv (.slot 1), some 124, some (118, true)⟩, []⟩,
  ⟨⟨.iaddr 1 (.slot 123) (.slot 124), some 125, some (118, true)⟩, []⟩,
  ⟨⟨.load false 1 (.slot 125), some 126, some (118, true)⟩, []⟩,
  ⟨⟨.call (.const (.func 91 [] [])) [(.slot 122), (.slot 126)], some 127, some (118, true)⟩, []⟩,
  ⟨⟨.un .not (.slot 127), some 128, some (118, true)⟩, []⟩,
  ⟨⟨.pick (.slot 118) (.slot 128) (.const (.bool false)), some 129, none⟩, []⟩]
def r93_16 : List XLine := [⟨⟨.mv (.slot 11), some 130, none⟩, []⟩,
  ⟨⟨.bin .sub 3 .num (.slot 130) (.const (.int .i64 (.ofNat 1))), some 131, none⟩, []⟩,
  ⟨⟨.mv (.slot 131), some 11, none⟩, []⟩]
def r93_17 : List XLine := [⟨⟨.mv (.slot 10), some 132, none⟩, []⟩,
  ⟨⟨.mv (.slot 11), some 133, none⟩, []⟩,
  ⟨⟨.bin .gtr 3 .num (.slot 132) (.slot 133), some 134, none⟩, []⟩]
def r93_18 : List XLine := [⟨⟨.mv (.slot 0), some 135, none⟩, []⟩,
  ⟨⟨.mv (.slot 10), some 136, none⟩, []⟩,
  ⟨⟨.mv (.slot 0), some 137, none⟩, []⟩,
  ⟨⟨.mv (.slot 11), some 138, none⟩, []⟩,
  ⟨⟨.mv (.slot 0), some 139, none⟩, []⟩,
  ⟨⟨.mv (.slot 11), some 140, none⟩, []⟩,
  ⟨⟨.iaddr 1 (.slot 139) (.slot 140), some 141, none⟩, []⟩,
  ⟨⟨.load false 1 (.slot 141), some 142, none⟩, []⟩,
  ⟨⟨.mv (.slot 0), some 143, none⟩, []⟩,
  ⟨⟨.mv (.slot 10), some 144, none⟩, []⟩,
  ⟨⟨.iaddr 1 (.slot 143) (.slot 144), some 145, none⟩, []⟩,
  ⟨⟨.load false 1 (.slot 145), some 146, none⟩, []⟩,
  ⟨⟨.iaddr 1 (.slot 135) (.slot 136), some 147, none⟩, []⟩,
  ⟨⟨.store 1 (.slot 147) (.slot 142), none, none⟩, []⟩,
  ⟨⟨.iaddr 1 (.slot 137) (.slot 138), some 148, none⟩, []⟩,
  ⟨⟨.store 1 (.slot 148) (.slot 146), none, none⟩, []⟩]
def r93_19 : List XLine := [⟨⟨.mv (.slot 10), some 149, none⟩, []⟩,
  ⟨⟨.bin .add 3 .num (.slot 149) (.const (.int .i64 (.ofNat 1))), some 150, none⟩, []⟩,
  ⟨⟨.mv (.slot 150), some 10, none⟩, []⟩]
def r93_20 : List XLine := [⟨⟨.mv (.slot 11), some 151, none⟩, []⟩,
  ⟨⟨.bin .sub 3 .num (.slot 151) (.const (.int .i64 (.ofNat 1))), some 152, none⟩, []⟩,
  ⟨⟨.mv (.slot 152), some 11, none⟩, []⟩]
def r93_21 : List XLine := [⟨⟨.mv (.slot 0), some 153, none⟩, []⟩,
  ⟨⟨.mv (.slot 11), some 154, none⟩, []⟩,
  ⟨⟨.mv (.slot 0), some 155, none⟩, []⟩,
  ⟨⟨.mv (.slot 1), some 156, none⟩, []⟩,
  ⟨⟨.mv (.slot 0), some 157, none⟩, []⟩,
  ⟨⟨.mv (.slot 1), some 158, none⟩, []⟩,
  ⟨⟨.iaddr 1 (.slot 157) (.slot 158), some 159, none⟩, []⟩,
  ⟨⟨.load false 1 (.slot 159), some 160, none⟩, []⟩,
  ⟨⟨.mv (.slot 0), some 161, none⟩, []⟩,
  ⟨⟨.mv (.slot 11), some 162, none⟩, []⟩,
  ⟨⟨.iaddr 1 (.slot 161) (.slot 162), some 163, none⟩, []⟩,
  ⟨⟨.load false 1 (.slot 163), some 164, none⟩, []⟩,
  ⟨⟨.iaddr 1 (.slot 153) (.slot 154), some 165, none⟩, []⟩,
  ⟨⟨.store 1 (.slot 165) (.slot 160), none, none⟩, []⟩,
  ⟨⟨.iaddr 1 (.slot 155) (.slot 156), some 166, none⟩, []⟩,
  ⟨⟨.store 1 (.slot 166) (.slot 164), none, none⟩, []⟩]
def r93_22 : List XLine := [⟨⟨.mv (.slot 11), some 167, none⟩, []⟩,
  ⟨⟨.mv (.slot 167), some 8, none⟩, []⟩,
  ⟨⟨.mv (.const (.bool false)), some 9, none⟩, []⟩]
def xf93 : XFunc := ⟨(.seq (.region false r93_0)
  (.seq (.region true r93_1)
  (.seq (.region false r93_2)
  (.seq (.block 0 (.loop (.seq (.seq (.region true r93_3)
  (.cond (.slot 43)
  .skip
  (.exit 0)))
  (.block 1 (.region false r93_4)))))
  (.seq (.block 2 (.loop (.seq (.seq (.region true r93_5)
  (.cond (.slot 60)
  .skip
  (.exit 2)))
  (.block 3 (.region false r93_6)))))
  (.seq (.seq (.region false r93_7)
  (.cond (.slot 65)
  (.seq (.region true r93_8)
  (.seq (.region false r93_9)
  .ret))
  .skip))
  (.seq (.region true r93_10)
  (.seq (.region false r93_11)
  (.seq (.region false r93_12)
  (.seq (.block 4 (.loop (.block 5 (.seq (.block 6 (.loop (.seq (.seq (.region true r93_13)
  (.cond (.slot 112)
  .skip
  (.exit 6)))
  (.block 7 (.region false r93_14)))))
  (.seq (.block 8 (.loop (.seq (.seq (.region true r93_15)
  (.cond (.slot 129)
  .skip
  (.exit 8)))
  (.block 9 (.region false r93_16)))))
  (.seq (.seq (.region false r93_17)
  (.cond (.slot 134)
  (.exit 4)
  .skip))
  (.seq (.region true r93_18)
  (.seq (.region false r93_19)
  (.region false r93_20)))))))))
  (.seq (.region true r93_21)
  (.seq (.region false r93_22)
  .ret)))))))))))),
  [.tmp 8, .tmp 9]⟩
theorem xf93_ok : compFunc Tryz.prog Tryz.f93 = some xf93 := by kernel_rfl
/- math/bits.Len32 -/
def r94_0 : List XLine := [⟨⟨.mv (.const (.int .i64 (.ofNat 0))), some 2, none⟩, []⟩]
def r94_1 : List XLine := [⟨⟨.mv (.slot 0), some 3, none⟩, []⟩,
  ⟨⟨.bin .geq 159 .num (.slot 3) (.const (.int .u32 (.ofNat 65536))), some 4, none⟩, []⟩]
def r94_2 : List XLine := [⟨⟨.mv (.slot 0), some 5, none⟩, []⟩,
  ⟨⟨.bin .shr 159 .num (.slot 5) (.const (.int .u64 (.ofNat 16))), some 6, none⟩, []⟩,
  ⟨⟨.mv (.slot 6), some 0, none⟩, []⟩]
def r94_3 : List XLine := [⟨⟨.mv (.const (.int .i64 (.ofNat 16))), some 2, none⟩, []⟩]
def r94_4 : List XLine := [⟨⟨.mv (.slot 0), some 7, none⟩, []⟩,
  ⟨⟨.bin .geq 159 .num (.slot 7) (.const (.int .u32 (.ofNat 256))), some 8, none⟩, []⟩]
def r94_5 : List XLine := [⟨⟨.mv (.slot 0), some 9, none⟩, []⟩,
  ⟨⟨.bin .shr 159 .num (.slot 9) (.const (.int .u64 (.ofNat 8))), some 10, none⟩, []⟩,
  ⟨⟨.mv (.slot 10), some 0, none⟩, []⟩]
def r94_6 : List XLine := [⟨⟨.mv (.slot 2), some 11, none⟩, []⟩,
  ⟨⟨.bin .add 3 .num (.slot 11) (.const (.int .i64 (.ofNat 8))), some 12, none⟩, []⟩,
  ⟨⟨.mv (.slot 12), some 2, none⟩, []⟩]
def r94_7 : List XLine := [⟨⟨.mv (.slot 2), some 13, none⟩, []⟩,
  ⟨⟨.mv (.slot 0), some 14, none⟩, []⟩,
  ⟨⟨.conv .u8 (.slot 14), some 15, none⟩, []⟩,
  ⟨⟨.sidx (.const (.str ⟨⟨[0, 1, 2, 2, 3, 3, 3, 3, 4, 4, 4, 4, 4, 4, 4, 4, 5, 5, 5, 5, 5, 5, 5, 5, 5, 5, 5, 5, 5, 5, 5, 5, 6, 6, 6, 6, 6, 6, 6, 6, 6, 6, 6, 6, 6, 6, 6, 6, 6, 6, 6, 6, 6, 6, 6, 6, 6, 6, 6, 6, 6, 6, 6, 6, 7, 7, 7, 7, 7, 7, 7, 7, 7, 7, 7, 7, 7, 7, 7, 7, 7, 7, 7, 7, 7, 7, 7, 7, 7, 7, 7, 7, 7, 7, 7, 7, 7, 7, 7, 7, 7, 7, 7, 7, 7, 7, 7, 7, 7, 7, 7, 7, 7, 7, 7, 7, 7, 7, 7, 7, 7, 7, 7, 7, 7, 7, 7, 7, 8, 8, 8, 8, 8, 8, 8, 8, 8, 8, 8, 8, 8, 8, 8, 8, 8, 8, 8, 8, 8, 8, 8, 8, 8, 8, 8, 8, 8, 8, 8, 8, 8, 8, 8, 8, 8, 8, 8, 8, 8, 8, 8, 8, 8, 8, 8, 8, 8, 8, 8, 8, 8, 8, 8, 8, 8, 8, 8, 8, 8, 8, 8, 8, 8, 8, 8, 8, 8, 8, 8, 8, 8, 8, 8, 8, 8, 8, 8, 8, 8, 8, 8, 8, 8, 8, 8, 8, 8, 8, 8, 8, 8, 8, 8, 8, 8, 8, 8, 8, 8, 8, 8, 8, 8, 8, 8, 8, 8, 8, 8, 8, 8, 8, 8, 8, 8, 8, 8, 8, 8, 8, 8, 8, 8, 8, 8, 8]⟩⟩)) (.slot 15), some 16, none⟩, []⟩,
  ⟨⟨.conv .i64 (.slot 16), some 17, none⟩, []⟩,
  ⟨⟨.bin .add 3 .num (.slot 13) (.slot 17), some 18, none⟩, []⟩,
  ⟨⟨.mv (.slot 18), some 2, none⟩, []⟩]
def xf94 : XFunc := ⟨(.seq (.region false r94_0)
  (.seq (.seq (.region false r94_1)
  (.cond (.slot 4)
  (.seq (.region false r94_2)
  (.region false r94_3))
  .skip))
  (.seq (.seq (.region false r94_4)
  (.cond (.slot 8)
  (.seq (.region false r94_5)
  (.region false r94_6))
  .skip))
  (.seq (.region false r94_7)
  .ret)))),
  [.tmp 2]⟩
theorem xf94_ok : compFunc Tryz.prog Tryz.f94 = some xf94 := by kernel_rfl
/- math/bits.Len64 -/
def r95_0 : List XLine := [⟨⟨.mv (.const (.int .i64 (.ofNat 0))), some 2, none⟩, []⟩]
def r95_1 : List XLine := [⟨⟨.mv (.slot 0), some 3, none⟩, []⟩,
  ⟨⟨.bin .geq 161 .num (.slot 3) (.const (.int .u64 (.ofNat 4294967296))), some 4, none⟩, []⟩]
def r95_2 : List XLine := [⟨⟨.mv (.slot 0), some 5, none⟩, []⟩,
  ⟨⟨.bin .shr 161 .num (.slot 5) (.const (.int .u64 (.ofNat 32))), some 6, none⟩, []⟩,
  ⟨⟨.mv (.slot 6), some 0, none⟩, []⟩]
def r95_3 : List XLine := [⟨⟨.mv (.const (.int .i64 (.ofNat 32))), some 2, none⟩, []⟩]
def r95_4 : List XLine := [⟨⟨.mv (.slot 0), some 7, none⟩, []⟩,
  ⟨⟨.bin .geq 161 .num (.slot 7) (.const (.int .u64 (.ofNat 65536))), some 8, none⟩, []⟩]
def r95_5 : List XLine := [⟨⟨.mv (.slot 0), some 9, none⟩, []⟩,
  ⟨⟨.bin .shr 161 .num (.slot 9) (.const (.int .u64 (.ofNat 16))), some 10, none⟩, []⟩,
  ⟨⟨.mv (.slot 10), some 0, none⟩, []⟩]
def r95_6 : List XLine := [⟨⟨.mv (.slot 2), some 11, none⟩, []⟩,
  ⟨⟨.bin .add 3 .num (.slot 11) (.const (.int .i64 (.ofNat 16))), some 12, none⟩, []⟩,
  ⟨⟨.mv (.slot 12), some 2, none⟩, []⟩]
def r95_7 : List XLine := [⟨⟨.mv (.slot 0), some 13, none⟩, []⟩,
  ⟨⟨.bin .geq 161 .num (.slot 13) (.const (.int .u64 (.ofNat 256))), some 14, none⟩, []⟩]
def r95_8 : List XLine := [⟨⟨.mv (.slot 0), some 15, none⟩, []⟩,
  ⟨⟨.bin .shr 161 .num (.slot 15) (.const (.int .u64 (.ofNat 8))), some 16, none⟩, []⟩,
  ⟨⟨.mv (.slot 16), some 0, none⟩, []⟩]
def r95_9 : List XLine := [⟨⟨.mv (.slot 2), some 17, none⟩, []⟩,
  ⟨⟨.bin .add 3 .num (.slot 17) (.const (.int .i64 (.ofNat 8))), some 18, none⟩, []⟩,
  ⟨⟨.mv (.slot 18), some 2, none⟩, []⟩]
def r95_10 : List XLine := [⟨⟨.mv (.slot 2), some 19, none⟩, []⟩,
  ⟨⟨.mv (.slot 0), some 20, none⟩, []⟩,
  ⟨⟨.conv .u8 (.slot 20), some 21, none⟩, []⟩,
  ⟨⟨.sidx (.const (.str ⟨⟨[0, 1, 2, 2, 3, 3, 3, 3, 4, 4, 4, 4, 4, 4, 4, 4, 5, 5, 5, 5, 5, 5, 5, 5, 5, 5, 5, 5, 5, 5, 5, 5, 6, 6, 6, 6, 6, 6, 6, 6, 6, 6, 6, 6, 6, 6, 6, 6, 6, 6, 6, 6, 6, 6, 6, 6, 6, 6, 6, 6, 6, 6, 6, 6, 7, 7, 7, 7, 7, 7, 7, 7, 7, 7, 7, 7, 7, 7, 7, 7, 7, 7, 7, 7, 7, 7, 7, 7, 7, 7, 7, 7, 7, 7, 7, 7, 7, 7, 7, 7, 7, 7, 7, 7, 7, 7, 7, 7, 7, 7, 7, 7, 7, 7, 7, 7, 7, 7, 7, 7, 7, 7, 7, 7, 7, 7, 7, 7, 8, 8, 8, 8, 8, 8, 8, 8, 8, 8, 8, 8, 8, 8, 8, 8, 8, 8, 8, 8, 8, 8, 8, 8, 8, 8, 8, 8, 8, 8, 8, 8, 8, 8, 8, 8, 8, 8, 8, 8, 8, 8, 8, 8, 8, 8, 8, 8, 8, 8, 8, 8, 8, 8, 8, 8, 8, 8, 8, 8, 8, 8, 8, 8, 8, 8, 8, 8, 8, 8, 8, 8, 8, 8, 8, 8, 8, 8, 8, 8, 8, 8, 8, 8, 8, 8, 8, 8, 8, 8, 8, 8, 8, 8, 8, 8, 8, 8, 8, 8, 8, 8, 8, 8, 8, 8, 8, 8, 8, 8, 8, 8, 8, 8, 8, 8, 8, 8, 8, 8, 8, 8, 8, 8, 8, 8, 8, 8]⟩⟩)) (.slot 21), some 22, none⟩, []⟩,
  ⟨⟨.conv .i64 (.slot 22), some 23, none⟩, []⟩,
  ⟨⟨.bin .add 3 .num (.slot 19) (.slot 23), some 24, none⟩, []⟩,
  ⟨⟨.mv (.slot 24), some 2, none⟩, []⟩]
def xf95 : XFunc := ⟨(.seq (.region false r95_0)
  (.seq (.seq (.region false r95_1)
  (.cond (.slot 4)
  (.seq (.region false r95_2)
  (.region false r95_3))
  .skip))
  (.seq (.seq (.region false r95_4)
  (.cond (.slot 8)
  (.seq (.region false r95_5)
  (.region false r95_6))
  .skip))
  (.seq (.seq (.region false r95_7)
  (.cond (.slot 14)
  (.seq (.region false r95_8)
  (.region false r95_9))
  .skip))
  (.seq (.region false r95_10)
  .ret))))),
  [.tmp 2]⟩
theorem xf95_ok : compFunc Tryz.prog Tryz.f95 = some xf95 := by kernel_rfl
/- threshing/base.both$1 -/
def r96_0 : List XLine := [⟨⟨.mv (.const (.bool false)), some 3, none⟩, []⟩]
def r96_1 : List XLine := [⟨⟨.mv (.slot 0), some 4, none⟩, []⟩,
  ⟨⟨.bin .gtr 24 .num (.slot 4) (.const (.int .i32 (.ofNat 0))), some 5, none⟩, []⟩,
  ⟨⟨.mv (.slot 5), some 6, none⟩, []⟩,
  ⟨⟨.load false 1 (.slot 1), some 7, some (6, true)⟩, []⟩,
  ⟨⟨.mv (.slot 0), some 8, some (6, true)⟩, []⟩,
  ⟨⟨.un .neg (.slot 8), some 9, some (6, true)⟩, []⟩,
  ⟨⟨.call (.const (.func 76 [] [])) [(.slot 7), (.slot 9)], some 10, some (6, true)⟩, []⟩,
  ⟨⟨.pick (.slot 6) (.slot 10) (.const (.bool false)), some 11, none⟩, []⟩,
  ⟨⟨.mv (.slot 11), some 3, none⟩, []⟩]
def xf96 : XFunc := ⟨(.seq (.region false r96_0)
  (.seq (.region false r96_1)
  .ret)),
  [.tmp 3]⟩
theorem xf96_ok : compFunc Tryz.prog Tryz.f96 = some xf96 := by kernel_rfl
/- slices.Index[threshing/api.Clause,threshing/api.Lit] -/
def r97_0 : List XLine := [⟨⟨.mv (.const (.int .i64 (.ofNat 0))), some 4, none⟩, []⟩]
def r97_1 : List XLine := [⟨⟨.mv (.slot 0), some 6, none⟩, []⟩,
  ⟨⟨.len .slice (.slot 6), some 7, none⟩, []⟩,
  ⟨⟨.mv (.const (.int .i64 (.ofNat 0))), some 8, none⟩, []⟩]
def r97_2 : List XLine := [⟨⟨.bin .lss 3 .num (.slot 8) (.slot 7), some 9, none⟩, []⟩]
def r97_3 : List XLine := [⟨⟨.mv (.slot 8), some 10, none⟩, []⟩,
  ⟨⟨.mv (.slot 10), some 5, none⟩, []⟩]
def r97_4 : List XLine := [⟨⟨.mv (.slot 1), some 11, none⟩, []⟩,
  ⟨⟨.mv (.slot 0), some 12, none⟩, []⟩,
  ⟨⟨.mv (.slot 5), some 13, none⟩, []⟩,
  ⟨⟨.iaddr 1 (.slot 12) (.slot 13), some 14, none⟩, []⟩,
  ⟨⟨.load false 1 (.slot 14), some 15, none⟩, []⟩,
  ⟨⟨.bin .eql 24 .num (.slot 11) (.slot 15), some 16, none⟩, []⟩]
def r97_5 : List XLine := [⟨⟨.mv (.slot 5), some 17, none⟩, []⟩,
  ⟨⟨.mv (.slot 17), some 4, none⟩, []⟩]
def r97_6 : List XLine := [⟨⟨.bin .add 3 .num (.slot 8) (.const (.int .i64 (.ofNat 1))), some 18, none⟩, []⟩,
  ⟨⟨.mv (.slot 18), some 8, none⟩, []⟩]
def r97_7 : List XLine := [⟨⟨.mv (.const (.int .i64 (.negSucc 0))), some 4, none⟩, []⟩]
def xf97 : XFunc := ⟨(.seq (.region false r97_0)
  (.seq (.seq (.region false r97_1)
  (.block 0 (.loop (.seq (.region false r97_2)
  (.seq (.cond (.slot 9)
  .skip
  (.exit 0))
  (.seq (.block 1 (.seq (.region false r97_3)
  (.seq (.region false r97_4)
  (.cond (.slot 16)
  (.seq (.region false r97_5)
  .ret)
  .skip))))
  (.region false r97_6)))))))
  (.seq (.region false r97_7)
  .ret))),
  [.tmp 4]⟩
theorem xf97_ok : compFunc Tryz.prog Tryz.f97 = some xf97 := by kernel_rfl
/- slices.insertionSortCmpFunc[threshing/api.Lit] -/
def r98_0 : List XLine := [⟨⟨.mv (.slot 1), some 10, none⟩, []⟩,
  ⟨⟨.bin .add 3 .num (.slot 10) (.const (.int .i64 (.ofNat 1))), some 11, none⟩, []⟩,
  ⟨⟨.mv (.slot 11), some 8, none⟩, []⟩]
def r98_1 : List XLine := [⟨⟨.mv (.slot 8), some 12, none⟩, []⟩,
  ⟨⟨.mv (.slot 2), some 13, none⟩, []⟩,
  ⟨⟨.bin .lss 3 .num (.slot 12) (.slot 13), some 14, none⟩, []⟩]
def r98_2 : List XLine := [⟨⟨.mv (.slot 8), some 17, none⟩, []⟩,
  ⟨⟨.mv (.slot 17), some 9, none⟩, []⟩]
def r98_3 : List XLine := [⟨⟨.mv (.slot 9), some 18, none⟩, []⟩,
  ⟨⟨.mv (.slot 1), some 19, none⟩, []⟩,
  ⟨⟨.bin .gtr 3 .num (.slot 18) (.slot 19), some 20, none⟩, []⟩,
  ⟨⟨.mv (.slot 20), some 21, none⟩, []⟩,
  ⟨⟨.mv (.slot 3), some 22, some (21, true)⟩, []⟩,
  ⟨⟨.mv (.slot 0), some 23, some (21, true)⟩, []⟩,
  ⟨⟨.mv (.slot 9), some 24, some (21, true)⟩, []⟩,
  ⟨⟨.iaddr 1 (.slot 23) (.slot 24), some 25, some (21, true)⟩, []⟩,
  ⟨⟨.load false 1 (.slot 25), some 26, some (21, true)⟩, []⟩,
  ⟨⟨.mv (.slot 0), some 27, some (21, true)⟩, []⟩,
  ⟨⟨.mv (.slot 9), some 28, some (21, true)⟩, []⟩,
  ⟨⟨.bin .sub 3 .num (.slot 28) (.const (.int .i64 (.ofNat 1))), some 29, some (21, true)⟩, []⟩,
  ⟨⟨.iaddr 1 (.slot 27) (.slot 29), some 30, some (21, true)⟩, []⟩,
  ⟨⟨.load false 1 (.slot 30), some 31, some (21, true)⟩, []⟩,
  ⟨⟨.call (.slot 22) [(.slot 26), (.slot 31)], some 32, some (21, true)⟩, []⟩,
  ⟨⟨.bin .lss 3 .num (.slot 32) (.const (.int .i64 (.ofNat 0))), some 33, some (21, true)⟩, []⟩,
  ⟨⟨.pick (.slot 21) (.slot 33) (.const (.bool false)), some 34, none⟩, []⟩]
def r98_4 : List XLine := [⟨⟨.mv (.slot 0), some 37, none⟩, []⟩,
  ⟨⟨.mv (.slot 9), some 38, none⟩, []⟩,
  ⟨⟨.mv (.slot 0), some 39, none⟩, []⟩,
  ⟨⟨.mv (.slot 9), some 40, none⟩, []⟩,
  ⟨⟨.bin .sub 3 .num (.slot 40) (.const (.int .i64 (.ofNat 1))), some 41, none⟩, []⟩,
  ⟨⟨.mv (.slot 0), some 42, none⟩, []⟩,
  ⟨⟨.mv (.slot 9), some 43, none⟩, []⟩,
  ⟨⟨.bin .sub 3 .num (.slot 43) (.const (.int .i64 (.ofNat 1))), some 44, none⟩, []⟩,
  ⟨⟨.iaddr 1 (.slot 42) (.slot 44), some 45, none⟩, []⟩,
  ⟨⟨.load false 1 (.slot 45), some 46, none⟩, []⟩,
  ⟨⟨.mv (.slot 0), some 47, none⟩, []⟩,
  ⟨⟨.mv (.slot 9), some 48, none⟩, []⟩,
  ⟨⟨.iaddr 1 (.slot 47) (.slot 48), some 49, none⟩, []⟩,
  ⟨⟨.load false 1 (.slot 49), some 50, none⟩, []⟩,
  ⟨⟨.iaddr 1 (.slot 37) (.slot 38), some 51, none⟩, []⟩,
  ⟨⟨.store 1 (.slot 51) (.slot 46), none, none⟩, []⟩,
  ⟨⟨.iaddr 1 (.slot 39) (.slot 41), some 52, none⟩, []⟩,
  ⟨⟨.store 1 (.slot 52) (.slot 50), none, none⟩, []⟩]
def r98_5 : List XLine := [⟨⟨.mv (.slot 9), some 35, none⟩, []⟩,
  ⟨⟨.bin .sub 3 .num (.slot 35) (.const (.int .i64 (.ofNat 1))), some 36, none⟩, []⟩,
  ⟨⟨.mv (.slot 36), some 9, none⟩, []⟩]
def r98_6 : List XLine := [⟨⟨.mv (.slot 8), some 15, none⟩, []⟩,
  ⟨⟨.bin .add 3 .num (.slot 15) (.const (.int .i64 (.ofNat 1))), some 16, none⟩, []⟩,
  ⟨⟨.mv (.slot 16), some 8, none⟩, []⟩]
def xf98 : XFunc := ⟨(.seq (.region false r98_0)
  (.block 0 (.loop (.seq (.seq (.region false r98_1)
  (.cond (.slot 14)
  .skip
  (.exit 0)))
  (.seq (.block 1 (.seq (.region false r98_2)
  (.block 2 (.loop (.seq (.seq (.region true r98_3)
  (.cond (.slot 34)
  .skip
  (.exit 2)))
  (.seq (.block 3 (.region true r98_4))
  (.region false r98_5)))))))
  (.region false r98_6)))))),
  []⟩
theorem xf98_ok : compFunc Tryz.prog Tryz.f98 = some xf98 := by kernel_rfl
/- slices.heapSortCmpFunc[threshing/api.Lit] -/
def r99_0 : List XLine := [⟨⟨.mv (.slot 1), some 13, none⟩, []⟩,
  ⟨⟨.mv (.slot 13), some 8, none⟩, []⟩]
def r99_1 : List XLine := [⟨⟨.mv (.const (.int .i64 (.ofNat 0))), some 9, none⟩, []⟩]
def r99_2 : List XLine := [⟨⟨.mv (.slot 2), some 14, none⟩, []⟩,
  ⟨⟨.mv (.slot 1), some 15, none⟩, []⟩,
  ⟨⟨.bin .sub 3 .num (.slot 14) (.slot 15), some 16, none⟩, []⟩,
  ⟨⟨.mv (.slot 16), some 10, none⟩, []⟩]
def r99_3 : List XLine := [⟨⟨.mv (.slot 10), some 17, none⟩, []⟩,
  ⟨⟨.bin .sub 3 .num (.slot 17) (.const (.int .i64 (.ofNat 1))), some 18, none⟩, []⟩,
  ⟨⟨.bin .quo 3 .num (.slot 18) (.const (.int .i64 (.ofNat 2))), some 19, none⟩, []⟩,
  ⟨⟨.mv (.slot 19), some 11, none⟩, []⟩]
def r99_4 : List XLine := [⟨⟨.mv (.slot 11), some 20, none⟩, []⟩,
  ⟨⟨.bin .geq 3 .num (.slot 20) (.const (.int .i64 (.ofNat 0))), some 21, none⟩, []⟩]
def r99_5 : List XLine := [⟨⟨.mv (.slot 0), some 24, none⟩, []⟩,
  ⟨⟨.mv (.slot 11), some 25, none⟩, []⟩,
  ⟨⟨.mv (.slot 10), some 26, none⟩, []⟩,
  ⟨⟨.mv (.slot 8), some 27, none⟩, []⟩,
  ⟨⟨.mv (.slot 3), some 28, none⟩, []⟩,
  ⟨⟨.call (.const (.func 115 [] [])) [(.slot 24), (.slot 25), (.slot 26), (.slot 27), (.slot 28)], some 29, none⟩, []⟩]
def r99_6 : List XLine := [⟨⟨.mv (.slot 11), some 22, none⟩, []⟩,
  ⟨⟨.bin .sub 3 .num (.slot 22) (.const (.int .i64 (.ofNat 1))), some 23, none⟩, []⟩,
  ⟨⟨.mv (.slot 23), some 11, none⟩, []⟩]
def r99_7 : List XLine := [⟨⟨.mv (.slot 10), some 30, none⟩, []⟩,
  ⟨⟨.bin .sub 3 .num (.slot 30) (.const (.int .i64 (.ofNat 1))), some 31, none⟩, []⟩,
  ⟨⟨.mv (.slot 31), some 12, none⟩, []⟩]
def r99_8 : List XLine := [⟨⟨.mv (.slot 12), some 32, none⟩, []⟩,
  ⟨⟨.bin .geq 3 .num (.slot 32) (.const (.int .i64 (.ofNat 0))), some 33, none⟩, []⟩]
def r99_9 : List XLine := [⟨⟨.mv (.slot 0), some 36, none⟩, []⟩,
  ⟨⟨.mv (.slot 8), some 37, none⟩, []⟩,
  ⟨⟨.mv (.slot 0), some 38, none⟩, []⟩,
  ⟨⟨.mv (.slot 8), some 39, none⟩, []⟩,
  ⟨⟨.mv (.slot 12), some 40, none⟩, []⟩,
  ⟨⟨.bin .add 3 .num (.slot 39) (.slot 40), some 41, none⟩, []⟩,
  ⟨⟨.mv (.slot 0), some 42, none⟩, []⟩,
  ⟨⟨.mv (.slot 8), some 43, none⟩, []⟩,
  ⟨⟨.mv (.slot 12), some 44, none⟩, []⟩,
  ⟨⟨.bin .add 3 .num (.slot 43) (.slot 44), some 45, none⟩, []⟩,
  ⟨⟨.iaddr 1 (.slot 42) (.slot 45), some 46, none⟩, []⟩,
  ⟨⟨.load false 1 (.slot 46), some 47, none⟩, []⟩,
  ⟨⟨.mv (.slot 0), some 48, none⟩, []⟩,
  ⟨⟨.mv (.slot 8), some 49, none⟩, []⟩,
  ⟨⟨.iaddr 1 (.slot 48) (.slot 49), some 50, none⟩, []⟩,
  ⟨⟨.load false 1 (.slot 50), some 51, none⟩, []⟩,
  ⟨⟨.iaddr 1 (.slot 36) (.slot 37), some 52, none⟩, []⟩,
  ⟨⟨.store 1 (.slot 52) (.slot 47), none, none⟩, []⟩,
  ⟨⟨.iaddr 1 (.slot 38) (.slot 41), some 53, none⟩, []⟩,
  ⟨⟨.store 1 (.slot 53) (.slot 51), none, none⟩, []⟩]
def r99_10 : List XLine := [⟨⟨.mv (.slot 0), some 54, none⟩, []⟩,
  ⟨⟨.mv (.slot 9), some 55, none⟩, []⟩,
  ⟨⟨.mv (.slot 12), some 56, none⟩, []⟩,
  ⟨⟨.mv (.slot 8), some 57, none⟩, []⟩,
  ⟨⟨.mv (.slot 3), some 58, none⟩, []⟩,
  ⟨⟨.call (.const (.func 115 [] [])) [(.slot 54), (.slot 55), (.slot 56), (.slot 57), (.slot 58)], some 59, none⟩, []⟩]
def r99_11 : List XLine := [⟨⟨.mv (.slot 12), some 34, none⟩, []⟩,
  ⟨⟨.bin .sub 3 .num (.slot 34) (.const (.int .i64 (.ofNat 1))), some 35, none⟩, []⟩,
  ⟨⟨.mv (.slot 35), some 12, none⟩, []⟩]
def xf99 : XFunc := ⟨(.seq (.region false r99_0)
  (.seq (.region false r99_1)
  (.seq (.region false r99_2)
  (.seq (.seq (.region false r99_3)
  (.block 0 (.loop (.seq (.seq (.region false r99_4)
  (.cond (.slot 21)
  .skip
  (.exit 0)))
  (.seq (.block 1 (.region false r99_5))
  (.region false r99_6))))))
  (.seq (.region false r99_7)
  (.block 2 (.loop (.seq (.seq (.region false r99_8)
  (.cond (.slot 33)
  .skip
  (.exit 2)))
  (.seq (.block 3 (.seq (.region true r99_9)
  (.region false r99_10)))
  (.region false r99_11)))))))))),
  []⟩
theorem xf99_ok : compFunc Tryz.prog Tryz.f99 = some xf99 := by kernel_rfl
/- slices.breakPatternsCmpFunc[threshing/api.Lit] -/
def r100_0 : List XLine := [⟨⟨.mv (.slot 2), some 13, none⟩, []⟩,
  ⟨⟨.mv (.slot 1), some 14, none⟩, []⟩,
  ⟨⟨.bin .sub 3 .num (.slot 13) (.slot 14), some 15, none⟩, []⟩,
  ⟨⟨.mv (.slot 15), some 8, none⟩, []⟩]
def r100_1 : List XLine := [⟨⟨.mv (.slot 8), some 16, none⟩, []⟩,
  ⟨⟨.bin .geq 3 .num (.slot 16) (.const (.int .i64 (.ofNat 8))), some 17, none⟩, []⟩]
def r100_2 : List XLine := [⟨⟨.mv (.slot 8), some 18, none⟩, []⟩,
  ⟨⟨.conv .u64 (.slot 18), some 19, none⟩, []⟩,
  ⟨⟨.alloc [(.int .u64 (.ofNat 0))], some 9, none⟩, []⟩,
  ⟨⟨.store 1 (.slot 9) (.slot 19), none, none⟩, []⟩]
def r100_3 : List XLine := [⟨⟨.mv (.slot 8), some 20, none⟩, []⟩,
  ⟨⟨.call (.const (.func 110 [] [])) [(.slot 20)], some 21, none⟩, []⟩,
  ⟨⟨.mv (.slot 21), some 10, none⟩, []⟩]
def r100_4 : List XLine := [⟨⟨.mv (.slot 1), some 22, none⟩, []⟩,
  ⟨⟨.mv (.slot 8), some 23, none⟩, []⟩,
  ⟨⟨.bin .quo 3 .num (.slot 23) (.const (.int .i64 (.ofNat 4))), some 24, none⟩, []⟩,
  ⟨⟨.bin .mul 3 .num (.slot 24) (.const (.int .i64 (.ofNat 2))), some 25, none⟩, []⟩,
  ⟨⟨.bin .add 3 .num (.slot 22) (.slot 25), some 26, none⟩, []⟩,
  ⟨⟨.bin .sub 3 .num (.slot 26) (.const (.int .i64 (.ofNat 1))), some 27, none⟩, []⟩,
  ⟨⟨.mv (.slot 27), some 11, none⟩, []⟩]
def r100_5 : List XLine := [⟨⟨.mv (.slot 11), some 28, none⟩, []⟩,
  ⟨⟨.mv (.slot 1), some 29, none⟩, []⟩,
  ⟨⟨.mv (.slot 8), some 30, none⟩, []⟩,
  ⟨⟨.bin .quo 3 .num (.slot 30) (.const (.int .i64 (.ofNat 4))), some 31, none⟩, []⟩,
  ⟨⟨.bin .mul 3 .num (.slot 31) (.const (.int .i64 (.ofNat 2))), some 32, none⟩, []⟩,
  ⟨⟨.bin .add 3 .num (.slot 29) (.slot 32), some 33, none⟩, []⟩,
  ⟨⟨.bin .add 3 .num (.slot 33) (.const (.int .i64 (.ofNat 1))), some 34, none⟩, []⟩,
  ⟨⟨.bin .leq 3 .num (.slot 28) (.slot 34), some 35, none⟩, []⟩]
def r100_6 : List XLine := [⟨⟨.call (.const (.func 111 [] [])) [(.slot 9)], some 38, none⟩, []⟩,
  ⟨⟨.mv (.slot 10), some 39, none⟩, []⟩,
  ⟨⟨.bin .sub 138 .num (.slot 39) (.const (.int .u64 (.ofNat 1))), some 40, none⟩, []⟩,
  ⟨⟨.bin .and 138 .num (.slot 38) (.slot 40), some 41, none⟩, []⟩,
  ⟨⟨.conv .i64 (.slot 41), some 42, none⟩, []⟩,
  ⟨⟨.mv (.slot 42), some 12, none⟩, []⟩]
def r100_7 : List XLine := [⟨⟨.mv (.slot 12), some 43, none⟩, []⟩,
  ⟨⟨.mv (.slot 8), some 44, none⟩, []⟩,
  ⟨⟨.bin .geq 3 .num (.slot 43) (.slot 44), some 45, none⟩, []⟩]
def r100_8 : List XLine := [⟨⟨.mv (.slot 12), some 46, none⟩, []⟩,
  ⟨⟨.mv (.slot 8), some 47, none⟩, []⟩,
  ⟨⟨.bin .sub 3 .num (.slot 46) (.slot 47), some 48, none⟩, []⟩,
  ⟨⟨.mv (.slot 48), some 12, none⟩, []⟩]
def r100_9 : List XLine := [⟨⟨.mv (.slot 0), some 49, none⟩, []⟩,
  ⟨⟨.mv (.slot 11), some 50, none⟩, []⟩,
  ⟨⟨.mv (.slot 0), some 51, none⟩, []⟩,
  ⟨⟨.mv (.slot 1), some 52, none⟩, []⟩,
  ⟨⟨.mv (.slot 12), some 53, none⟩, []⟩,
  ⟨⟨.bin .add 3 .num (.slot 52) (.slot 53), some 54, none⟩, []⟩,
  ⟨⟨.mv (.slot 0), some 55, none⟩, []⟩,
  ⟨⟨.mv (.slot 1), some 56, none⟩, []⟩,
  ⟨⟨.mv (.slot 12), some 57, none⟩, []⟩,
  ⟨⟨.bin .add 3 .num (.slot 56) (.slot 57), some 58, none⟩, []⟩,
  ⟨⟨.iaddr 1 (.slot 55) (.slot 58), some 59, none⟩, []⟩,
  ⟨⟨.load false 1 (.slot 59), some 60, none⟩, []⟩,
  ⟨⟨.mv (.slot 0), some 61, none⟩, []⟩,
  ⟨⟨.mv (.slot 11), some 62, none⟩, []⟩,
  ⟨⟨.iaddr 1 (.slot 61) (.slot 62), some 63, none⟩, []⟩,
  ⟨⟨.load false 1 (.slot 63), some 64, none⟩, []⟩,
  ⟨⟨.iaddr 1 (.slot 49) (.slot 50), some 65, none⟩, []⟩,
  ⟨⟨.store 1 (.slot 65) (.slot 60), none, none⟩, []⟩,
  ⟨⟨.iaddr 1 (.slot 51) (.slot 54), some 66, none⟩, []⟩,
  ⟨⟨.store 1 (.slot 66) (.slot 64), none, none⟩, []⟩]
def r100_10 : List XLine := [⟨⟨.mv (.slot 11), some 36, none⟩, []⟩,
  ⟨⟨.bin .add 3 .num (.slot 36) (.const (.int .i64 (.ofNat 1))), some 37, none⟩, []⟩,
  ⟨⟨.mv (.slot 37), some 11, none⟩, []⟩]
def xf100 : XFunc := ⟨(.seq (.region false r100_0)
  (.seq (.region false r100_1)
  (.cond (.slot 17)
  (.seq (.region false r100_2)
  (.seq (.region false r100_3)
  (.seq (.region false r100_4)
  (.block 0 (.loop (.seq (.seq (.region false r100_5)
  (.cond (.slot 35)
  .skip
  (.exit 0)))
  (.seq (.block 1 (.seq (.region false r100_6)
  (.seq (.seq (.region false r100_7)
  (.cond (.slot 45)
  (.region false r100_8)
  .skip))
  (.region true r100_9))))
  (.region false r100_10))))))))
  .skip))),
  []⟩
theorem xf100_ok : compFunc Tryz.prog Tryz.f100 = some xf100 := by kernel_rfl
/- slices.choosePivotCmpFunc[threshing/api.Lit] -/
def r101_0 : List XLine := [⟨⟨.mv (.const (.int .i64 (.ofNat 0))), some 8, none⟩, []⟩,
  ⟨⟨.mv (.const (.int .i64 (.ofNat 0))), some 9, none⟩, []⟩]
def r101_1 : List XLine := [⟨⟨.mv (.slot 2), some 15, none⟩, []⟩,
  ⟨⟨.mv (.slot 1), some 16, none⟩, []⟩,
  ⟨⟨.bin .sub 3 .num (.slot 15) (.slot 16), some 17, none⟩, []⟩,
  ⟨⟨.mv (.slot 17), some 10, none⟩, []⟩]
def r101_2 : List XLine := [⟨⟨.alloc [(.int .i64 (.ofNat 0))], some 11, none⟩, []⟩]
def r101_3 : List XLine := [⟨⟨.mv (.slot 1), some 18, none⟩, []⟩,
  ⟨⟨.mv (.slot 10), some 19, none⟩, []⟩,
  ⟨⟨.bin .quo 3 .num (.slot 19) (.const (.int .i64 (.ofNat 4))), some 20, none⟩, []⟩,
  ⟨⟨.bin .mul 3 .num (.slot 20) (.const (.int .i64 (.ofNat 1))), some 21, none⟩, []⟩,
  ⟨⟨.bin .add 3 .num (.slot 18) (.slot 21), some 22, none⟩, []⟩,
  ⟨⟨.mv (.slot 22), some 12, none⟩, []⟩]
def r101_4 : List XLine := [⟨⟨.mv (.slot 1), some 23, none⟩, []⟩,
  ⟨⟨.mv (.slot 10), some 24, none⟩, []⟩,
  ⟨⟨.bin .quo 3 .num (.slot 24) (.const (.int .i64 (.ofNat 4))), some 25, none⟩, []⟩,
  ⟨⟨.bin .mul 3 .num (.slot 25) (.const (.int .i64 (.ofNat 2))), some 26, none⟩, []⟩,
  ⟨⟨.bin .add 3 .num (.slot 23) (.slot 26), some 27, none⟩, []⟩,
  ⟨⟨.mv (.slot 27), some 13, none⟩, []⟩]
def r101_5 : List XLine := [⟨⟨.mv (.slot 1), some 28, none⟩, []⟩,
  ⟨⟨.mv (.slot 10), some 29, none⟩, []⟩,
  ⟨⟨.bin .quo 3 .num (.slot 29) (.const (.int .i64 (.ofNat 4))), some 30, none⟩, []⟩,
  ⟨⟨.bin .mul 3 .num (.slot 30) (.const (.int .i64 (.ofNat 3))), some 31, none⟩, []⟩,
  ⟨⟨.bin .add 3 .num (.slot 28) (.slot 31), some 32, none⟩, []⟩,
  ⟨⟨.mv (.slot 32), some 14, none⟩, []⟩]
def r101_6 : List XLine := [⟨⟨.mv (.slot 10), some 33, none⟩, []⟩,
  ⟨⟨.bin .geq 3 .num (.slot 33) (.const (.int .i64 (.ofNat 8))), some 34, none⟩, []⟩]
def r101_7 : List XLine := [⟨⟨.mv (.slot 10), some 35, none⟩, []⟩,
  ⟨⟨.bin .geq 3 .num (.slot 35) (.const (.int .i64 (.ofNat 50))), some 36, none⟩, []⟩]
def r101_8 : List XLine := [⟨⟨.mv (.slot 0), some 37, none⟩, []⟩,
  ⟨⟨.mv (.slot 12), some 38, none⟩, []⟩,
  ⟨⟨.mv (.slot 3), some 39, none⟩, []⟩,
  ⟨⟨.call (.const (.func 116 [] [])) [(.slot 37), (.slot 38), (.slot 11), (.slot 39)], some 40, none⟩, []⟩,
  ⟨⟨.mv (.slot 40), some 12, none⟩, []⟩]
def r101_9 : List XLine := [⟨⟨.mv (.slot 0), some 41, none⟩, []⟩,
  ⟨⟨.mv (.slot 13), some 42, none⟩, []⟩,
  ⟨⟨.mv (.slot 3), some 43, none⟩, []⟩,
  ⟨⟨.call (.const (.func 116 [] [])) [(.slot 41), (.slot 42), (.slot 11), (.slot 43)], some 44, none⟩, []⟩,
  ⟨⟨.mv (.slot 44), some 13, none⟩, []⟩]
def r101_10 : List XLine := [⟨⟨.mv (.slot 0), some 45, none⟩, []⟩,
  ⟨⟨.mv (.slot 14), some 46, none⟩, []⟩,
  ⟨⟨.mv (.slot 3), some 47, none⟩, []⟩,
  ⟨⟨.call (.const (.func 116 [] [])) [(.slot 45), (.slot 46), (.slot 11), (.slot 47)], some 48, none⟩, []⟩,
  ⟨⟨.mv (.slot 48), some 14, none⟩, []⟩]
def r101_11 : List XLine := [⟨⟨.mv (.slot 0), some 49, none⟩, []⟩,
  ⟨⟨.mv (.slot 12), some 50, none⟩, []⟩,
  ⟨⟨.mv (.slot 13), some 51, none⟩, []⟩,
  ⟨⟨.mv (.slot 14), some 52, none⟩, []⟩,
  ⟨⟨.mv (.slot 3), some 53, none⟩, []⟩,
  ⟨⟨.call (.const (.func 117 [] [])) [(.slot 49), (.slot 50), (.slot 51), (.slot 52), (.slot 11), (.slot 53)], some 54, none⟩, []⟩,
  ⟨⟨.mv (.slot 54), some 13, none⟩, []⟩]
def r101_12 : List XLine := [⟨⟨.load false 1 (.slot 11), some 55, none⟩, []⟩]
def r101_13 : List XLine := [⟨⟨.bin .eql 3 .num (.slot 55) (.const (.int .i64 (.ofNat 0))), some 58, none⟩, []⟩,
  ⟨⟨.mv (.slot 58), some 57, none⟩, []⟩]
def r101_14 : List XLine := [⟨⟨.mv (.slot 13), some 59, none⟩, []⟩,
  ⟨⟨.mv (.slot 59), some 8, none⟩, []⟩,
  ⟨⟨.mv (.const (.int .i64 (.ofNat 1))), some 9, none⟩, []⟩]
def r101_15 : List XLine := [⟨⟨.bin .eql 3 .num (.slot 55) (.const (.int .i64 (.ofNat 12))), some 61, none⟩, []⟩,
  ⟨⟨.mv (.slot 61), some 60, none⟩, []⟩]
def r101_16 : List XLine := [⟨⟨.mv (.slot 13), some 62, none⟩, []⟩,
  ⟨⟨.mv (.slot 62), some 8, none⟩, []⟩,
  ⟨⟨.mv (.const (.int .i64 (.ofNat 2))), some 9, none⟩, []⟩]
def r101_17 : List XLine := [⟨⟨.mv (.slot 13), some 56, none⟩, []⟩,
  ⟨⟨.mv (.slot 56), some 8, none⟩, []⟩,
  ⟨⟨.mv (.const (.int .i64 (.ofNat 0))), some 9, none⟩, []⟩]
def xf101 : XFunc := ⟨(.seq (.region false r101_0)
  (.seq (.region false r101_1)
  (.seq (.region false r101_2)
  (.seq (.region false r101_3)
  (.seq (.region false r101_4)
  (.seq (.region false r101_5)
  (.seq (.seq (.region false r101_6)
  (.cond (.slot 34)
  (.seq (.seq (.region false r101_7)
  (.cond (.slot 36)
  (.seq (.region false r101_8)
  (.seq (.region false r101_9)
  (.region false r101_10)))
  .skip))
  (.region false r101_11))
  .skip))
  (.seq (.region false r101_12)
  (.block 0 (.seq (.region false r101_13)
  (.cond (.slot 57)
  (.seq (.region false r101_14)
  .ret)
  (.seq (.region false r101_15)
  (.cond (.slot 60)
  (.seq (.region false r101_16)
  .ret)
  (.seq (.region false r101_17)
  .ret)))))))))))))),
  [.tmp 8, .tmp 9]⟩
theorem xf101_ok : compFunc Tryz.prog Tryz.f101 = some xf101 := by kernel_rfl
/- slices.reverseRangeCmpFunc[threshing/api.Lit] -/
def r102_0 : List XLine := [⟨⟨.mv (.slot 1), some 10, none⟩, []⟩,
  ⟨⟨.mv (.slot 10), some 8, none⟩, []⟩]
def r102_1 : List XLine := [⟨⟨.mv (.slot 2), some 11, none⟩, []⟩,
  ⟨⟨.bin .sub 3 .num (.slot 11) (.const (.int .i64 (.ofNat 1))), some 12, none⟩, []⟩,
  ⟨⟨.mv (.slot 12), some 9, none⟩, []⟩]
def r102_2 : List XLine := [⟨⟨.mv (.slot 8), some 13, none⟩, []⟩,
  ⟨⟨.mv (.slot 9), some 14, none⟩, []⟩,
  ⟨⟨.bin .lss 3 .num (.slot 13) (.slot 14), some 15, none⟩, []⟩]
def r102_3 : List XLine := [⟨⟨.mv (.slot 0), some 16, none⟩, []⟩,
  ⟨⟨.mv (.slot 8), some 17, none⟩, []⟩,
  ⟨⟨.mv (.slot 0), some 18, none⟩, []⟩,
  ⟨⟨.mv (.slot 9), some 19, none⟩, []⟩,
  ⟨⟨.mv (.slot 0), some 20, none⟩, []⟩,
  ⟨⟨.mv (.slot 9), some 21, none⟩, []⟩,
  ⟨⟨.iaddr 1 (.slot 20) (.slot 21), some 22, none⟩, []⟩,
  ⟨⟨.load false 1 (.slot 22), some 23, none⟩, []⟩,
  ⟨⟨.mv (.slot 0), some 24, none⟩, []⟩,
  ⟨⟨.mv (.slot 8), some 25, none⟩, []⟩,
  ⟨⟨.iaddr 1 (.slot 24) (.slot 25), some 26, none⟩, []⟩,
  ⟨⟨.load false 1 (.slot 26), some 27, none⟩, []⟩,
  ⟨⟨.iaddr 1 (.slot 16) (.slot 17), some 28, none⟩, []⟩,
  ⟨⟨.store 1 (.slot 28) (.slot 23), none, none⟩, []⟩,
  ⟨⟨.iaddr 1 (.slot 18) (.slot 19), some 29, none⟩, []⟩,
  ⟨⟨.store 1 (.slot 29) (.slot 27), none, none⟩, []⟩]
def r102_4 : List XLine := [⟨⟨.mv (.slot 8), some 30, none⟩, []⟩,
  ⟨⟨.bin .add 3 .num (.slot 30) (.const (.int .i64 (.ofNat 1))), some 31, none⟩, []⟩,
  ⟨⟨.mv (.slot 31), some 8, none⟩, []⟩]
def r102_5 : List XLine := [⟨⟨.mv (.slot 9), some 32, none⟩, []⟩,
  ⟨⟨.bin .sub 3 .num (.slot 32) (.const (.int .i64 (.ofNat 1))), some 33, none⟩, []⟩,
  ⟨⟨.mv (.slot 33), some 9, none⟩, []⟩]
def xf102 : XFunc := ⟨(.seq (.region false r102_0)
  (.seq (.region false r102_1)
  (.block 0 (.loop (.seq (.seq (.region false r102_2)
  (.cond (.slot 15)
  .skip
  (.exit 0)))
  (.block 1 (.seq (.region true r102_3)
  (.seq (.region false r102_4)
  (.region false r102_5))))))))),
  []⟩
theorem xf102_ok : compFunc Tryz.prog Tryz.f102 = some xf102 := by kernel_rfl
/- slices.partialInsertionSortCmpFunc[threshing/api.Lit] -/
def r103_0 : List XLine := [⟨⟨.mv (.const (.bool false)), some 8, none⟩, []⟩]
def r103_1 : List XLine := [⟨⟨.mv (.slot 1), some 13, none⟩, []⟩,
  ⟨⟨.bin .add 3 .num (.slot 13) (.const (.int .i64 (.ofNat 1))), some 14, none⟩, []⟩,
  ⟨⟨.mv (.slot 14), some 9, none⟩, []⟩]
def r103_2 : List XLine := [⟨⟨.mv (.const (.int .i64 (.ofNat 0))), some 10, none⟩, []⟩]
def r103_3 : List XLine := [⟨⟨.mv (.slot 10), some 15, none⟩, []⟩,
  ⟨⟨.bin .lss 3 .num (.slot 15) (.const (.int .i64 (.ofNat 5))), some 16, none⟩, []⟩]
def r103_4 : List XLine := [⟨⟨.mv (.slot 9), some 19, none⟩, []⟩,
  ⟨⟨.mv (.slot 2), some 20, none⟩, []⟩,
  ⟨⟨.bin .lss 3 .num (.slot 19) (.slot 20), some 21, none⟩, []⟩,
  ⟨⟨.mv (.slot 21), some 22, none⟩, []⟩,
  ⟨⟨.mv (.slot 3), some 23, some (22, true)⟩, []⟩,
  ⟨⟨.mv (.slot 0), some 24, some (22, true)⟩, []⟩,
  ⟨⟨.mv (.slot 9), some 25, some (22, true)⟩, []⟩,
  ⟨⟨.iaddr 1 (.slot 24) (.slot 25), some 26, some (22, true)⟩, []⟩,
  ⟨⟨.load false 1 (.slot 26), some 27, some (22, true)⟩, []⟩,
  ⟨⟨.mv (.slot 0), some 28, some (22, true)⟩, []⟩,
  ⟨⟨.mv (.slot 9), some 29, some (22, true)⟩, []⟩,
  ⟨⟨.bin .sub 3 .num (.slot 29) (.const (.int .i64 (.ofNat 1))), some 30, some (22, true)⟩, []⟩,
  ⟨⟨.iaddr 1 (.slot 28) (.slot 30), some 31, some (22, true)⟩, []⟩,
  ⟨⟨.load false 1 (.slot 31), some 32, some (22, true)⟩, []⟩,
  ⟨⟨.call (.slot 23) [(.slot 27), (.slot 32)], some 33, some (22, true)⟩, []⟩,
  ⟨⟨.bin .lss 3 .num (.slot 33) (.const (.int .i64 (.ofNat 0))), some 34, some (22, true)⟩, []⟩,
  ⟨⟨.un .not (.slot 34), some 35, some (22, true)⟩, []⟩,
  ⟨⟨.pick (.slot 22) (.slot 35) (.const (.bool false)), some 36, none⟩, []⟩]
def r103_5 : List XLine := [⟨⟨.mv (.slot 9), some 37, none⟩, []⟩,
  ⟨⟨.bin .add 3 .num (.slot 37) (.const (.int .i64 (.ofNat 1))), some 38, none⟩, []⟩,
  ⟨⟨.mv (.slot 38), some 9, none⟩, []⟩]
def r103_6 : List XLine := [⟨⟨.mv (.slot 9), some 39, none⟩, []⟩,
  ⟨⟨.mv (.slot 2), some 40, none⟩, []⟩,
  ⟨⟨.bin .eql 3 .num (.slot 39) (.slot 40), some 41, none⟩, []⟩]
def r103_7 : List XLine := [⟨⟨.mv (.const (.bool true)), some 8, none⟩, []⟩]
def r103_8 : List XLine := [⟨⟨.mv (.slot 2), some 42, none⟩, []⟩,
  ⟨⟨.mv (.slot 1), some 43, none⟩, []⟩,
  ⟨⟨.bin .sub 3 .num (.slot 42) (.slot 43), some 44, none⟩, []⟩,
  ⟨⟨.bin .lss 3 .num (.slot 44) (.const (.int .i64 (.ofNat 50))), some 45, none⟩, []⟩]
def r103_9 : List XLine := [⟨⟨.mv (.const (.bool false)), some 8, none⟩, []⟩]
def r103_10 : List XLine := [⟨⟨.mv (.slot 0), some 46, none⟩, []⟩,
  ⟨⟨.mv (.slot 9), some 47, none⟩, []⟩,
  ⟨⟨.mv (.slot 0), some 48, none⟩, []⟩,
  ⟨⟨.mv (.slot 9), some 49, none⟩, []⟩,
  ⟨⟨.bin .sub 3 .num (.slot 49) (.const (.int .i64 (.ofNat 1))), some 50, none⟩, []⟩,
  ⟨⟨.mv (.slot 0), some 51, none⟩, []⟩,
  ⟨⟨.mv (.slot 9), some 52, none⟩, []⟩,
  ⟨⟨.bin .sub 3 .num (.slot 52) (.const (.int .i64 (.ofNat 1))), some 53, none⟩, []⟩,
  ⟨⟨.iaddr 1 (.slot 51) (.slot 53), some 54, none⟩, []⟩,
  ⟨⟨.load false 1 (.slot 54), some 55, none⟩, []⟩,
  ⟨⟨.mv (.slot 0), some 56, none⟩, []⟩,
  ⟨⟨.mv (.slot 9), some 57, none⟩, []⟩,
  ⟨⟨.iaddr 1 (.slot 56) (.slot 57), some 58, none⟩, []⟩,
  ⟨⟨.load false 1 (.slot 58), some 59, none⟩, []⟩,
  ⟨⟨.iaddr 1 (.slot 46) (.slot 47), some 60, none⟩, []⟩,
  ⟨⟨.store 1 (.slot 60) (.slot 55), none, none⟩, []⟩,
  ⟨⟨.iaddr 1 (.slot 48) (.slot 50), some 61, none⟩, []⟩,
  ⟨⟨.store 1 (.slot 61) (.slot 59), none, none⟩, []⟩]
def r103_11 : List XLine := [⟨⟨.mv (.slot 9), some 62, none⟩, []⟩,
  ⟨⟨.mv (.slot 1), some 63, none⟩, []⟩,
  ⟨⟨.bin .sub 3 .num (.slot 62) (.slot 63), some 64, none⟩, []⟩,
  ⟨⟨.bin .geq 3 .num (.slot 64) (.const (.int .i64 (.ofNat 2))), some 65, none⟩, []⟩]
def r103_12 : List XLine := [⟨⟨.mv (.slot 9), some 66, none⟩, []⟩,
  ⟨⟨.bin .sub 3 .num (.slot 66) (.const (.int .i64 (.ofNat 1))), some 67, none⟩, []⟩,
  ⟨⟨.mv (.slot 67), some 11, none⟩, []⟩]
def r103_13 : List XLine := [⟨⟨.mv (.slot 11), some 68, none⟩, []⟩,
  ⟨⟨.bin .geq 3 .num (.slot 68) (.const (.int .i64 (.ofNat 1))), some 69, none⟩, []⟩]
def r103_14 : List XLine := [⟨⟨.mv (.slot 3), some 72, none⟩, []⟩,
  ⟨⟨.mv (.slot 0), some 73, none⟩, []⟩,
  ⟨⟨.mv (.slot 11), some 74, none⟩, []⟩,
  ⟨⟨.iaddr 1 (.slot 73) (.slot 74), some 75, none⟩, []⟩,
  ⟨⟨.load false 1 (.slot 75), some 76, none⟩, []⟩,
  ⟨⟨.mv (.slot 0), some 77, none⟩, []⟩,
  ⟨⟨.mv (.slot 11), some 78, none⟩, []⟩,
  ⟨⟨.bin .sub 3 .num (.slot 78) (.const (.int .i64 (.ofNat 1))), some 79, none⟩, []⟩,
  ⟨⟨.iaddr 1 (.slot 77) (.slot 79), some 80, none⟩, []⟩,
  ⟨⟨.load false 1 (.slot 80), some 81, none⟩, []⟩,
  ⟨⟨.call (.slot 72) [(.slot 76), (.slot 81)], some 82, none⟩, []⟩,
  ⟨⟨.bin .lss 3 .num (.slot 82) (.const (.int .i64 (.ofNat 0))), some 83, none⟩, []⟩,
  ⟨⟨.un .not (.slot 83), some 84, none⟩, []⟩]
def r103_15 : List XLine := [⟨⟨.mv (.slot 0), some 85, none⟩, []⟩,
  ⟨⟨.mv (.slot 11), some 86, none⟩, []⟩,
  ⟨⟨.mv (.slot 0), some 87, none⟩, []⟩,
  ⟨⟨.mv (.slot 11), some 88, none⟩, []⟩,
  ⟨⟨.bin .sub 3 .num (.slot 88) (.const (.int .i64 (.ofNat 1))), some 89, none⟩, []⟩,
  ⟨⟨.mv (.slot 0), some 90, none⟩, []⟩,
  ⟨⟨.mv (.slot 11), some 91, none⟩, []⟩,
  ⟨⟨.bin .sub 3 .num (.slot 91) (.const (.int .i64 (.ofNat 1))), some 92, none⟩, []⟩,
  ⟨⟨.iaddr 1 (.slot 90) (.slot 92), some 93, none⟩, []⟩,
  ⟨⟨.load false 1 (.slot 93), some 94, none⟩, []⟩,
  ⟨⟨.mv (.slot 0), some 95, none⟩, []⟩,
  ⟨⟨.mv (.slot 11), some 96, none⟩, []⟩,
  ⟨⟨.iaddr 1 (.slot 95) (.slot 96), some 97, none⟩, []⟩,
  ⟨⟨.load false 1 (.slot 97), some 98, none⟩, []⟩,
  ⟨⟨.iaddr 1 (.slot 85) (.slot 86), some 99, none⟩, []⟩,
  ⟨⟨.store 1 (.slot 99) (.slot 94), none, none⟩, []⟩,
  ⟨⟨.iaddr 1 (.slot 87) (.slot 89), some 100, none⟩, []⟩,
  ⟨⟨.store 1 (.slot 100) (.slot 98), none, none⟩, []⟩]
def r103_16 : List XLine := [⟨⟨.mv (.slot 11), some 70, none⟩, []⟩,
  ⟨⟨.bin .sub 3 .num (.slot 70) (.const (.int .i64 (.ofNat 1))), some 71, none⟩, []⟩,
  ⟨⟨.mv (.slot 71), some 11, none⟩, []⟩]
def r103_17 : List XLine := [⟨⟨.mv (.slot 2), some 101, none⟩, []⟩,
  ⟨⟨.mv (.slot 9), some 102, none⟩, []⟩,
  ⟨⟨.bin .sub 3 .num (.slot 101) (.slot 102), some 103, none⟩, []⟩,
  ⟨⟨.bin .geq 3 .num (.slot 103) (.const (.int .i64 (.ofNat 2))), some 104, none⟩, []⟩]
def r103_18 : List XLine := [⟨⟨.mv (.slot 9), some 105, none⟩, []⟩,
  ⟨⟨.bin .add 3 .num (.slot 105) (.const (.int .i64 (.ofNat 1))), some 106, none⟩, []⟩,
  ⟨⟨.mv (.slot 106), some 12, none⟩, []⟩]
def r103_19 : List XLine := [⟨⟨.mv (.slot 12), some 107, none⟩, []⟩,
  ⟨⟨.mv (.slot 2), some 108, none⟩, []⟩,
  ⟨⟨.bin .lss 3 .num (.slot 107) (.slot 108), some 109, none⟩, []⟩]
def r103_20 : List XLine := [⟨⟨.mv (.slot 3), some 112, none⟩, []⟩,
  ⟨⟨.mv (.slot 0), some 113, none⟩, []⟩,
  ⟨⟨.mv (.slot 12), some 114, none⟩, []⟩,
  ⟨⟨.iaddr 1 (.slot 113) (.slot 114), some 115, none⟩, []⟩,
  ⟨⟨.load false 1 (.slot 115), some 116, none⟩, []⟩,
  ⟨⟨.mv (.slot 0), some 117, none⟩, []⟩,
  ⟨⟨.mv (.slot 12), some 118, none⟩, []⟩,
  ⟨⟨.bin .sub 3 .num (.slot 118) (.const (.int .i64 (.ofNat 1))), some 119, none⟩, []⟩,
  ⟨⟨.iaddr 1 (.slot 117) (.slot 119), some 120, none⟩, []⟩,
  ⟨⟨.load false 1 (.slot 120), some 121, none⟩, []⟩,
  ⟨⟨.call (.slot 112) [(.slot 116), (.slot 121)], some 122, none⟩, []⟩,
  ⟨⟨.bin .lss 3 .num (.slot 122) (.const (.int .i64 (.ofNat 0))), some 123, none⟩, []⟩,
  ⟨⟨.un .not (.slot 123), some 124, none⟩, []⟩]
def r103_21 : List XLine := [⟨⟨.mv (.slot 0), some 125, none⟩, []⟩,
  ⟨⟨.mv (.slot 12), some 126, none⟩, []⟩,
  ⟨⟨.mv (.slot 0), some 127, none⟩, []⟩,
  ⟨⟨.mv (.slot 12), some 128, none⟩, []⟩,
  ⟨⟨.bin .sub 3 .num (.slot 128) (.const (.int .i64 (.ofNat 1))), some 129, none⟩, []⟩,
  ⟨⟨.mv (.slot 0), some 130, none⟩, []⟩,
  ⟨⟨.mv (.slot 12), some 131, none⟩, []⟩,
  ⟨⟨.bin .sub 3 .num (.slot 131) (.const (.int .i64 (.ofNat 1))), some 132, none⟩, []⟩,
  ⟨⟨.iaddr 1 (.slot 130) (.slot 132), some 133, none⟩, []⟩,
  ⟨⟨.load false 1 (.slot 133), some 134, none⟩, []⟩,
  ⟨⟨.mv (.slot 0), some 135, none⟩, []⟩,
  ⟨⟨.mv (.slot 12), some 136, none⟩, []⟩,
  ⟨⟨.iaddr 1 (.slot 135) (.slot 136), some 137, none⟩, []⟩,
  ⟨⟨.load false 1 (.slot 137), some 138, none⟩, []⟩,
  ⟨⟨.iaddr 1 (.slot 125) (.slot 126), some 139, none⟩, []⟩,
  ⟨⟨.store 1 (.slot 139) (.slot 134), none, none⟩, []⟩,
  ⟨⟨.iaddr 1 (.slot 127) (.slot 129), some 140, none⟩, []⟩,
  ⟨⟨.store 1 (.slot 140) (.slot 138), none, none⟩, []⟩]
def r103_22 : List XLine := [⟨⟨.mv (.slot 12), some 110, none⟩, []⟩,
  ⟨⟨.bin .add 3 .num (.slot 110) (.const (.int .i64 (.ofNat 1))), some 111, none⟩, []⟩,
  ⟨⟨.mv (.slot 111), some 12, none⟩, []⟩]
def r103_23 : List XLine := [⟨⟨.mv (.slot 10), some 17, none⟩, []⟩,
  ⟨⟨.bin .add 3 .num (.slot 17) (.const (.int .i64 (.ofNat 1))), some 18, none⟩, []⟩,
  ⟨⟨.mv (.slot 18), some 10, none⟩, []⟩]
def r103_24 : List XLine := [⟨⟨.mv (.const (.bool false)), some 8, none⟩, []⟩]
def xf103 : XFunc := ⟨(.seq (.region false r103_0)
  (.seq (.region false r103_1)
  (.seq (.seq (.region false r103_2)
  (.block 0 (.loop (.seq (.seq (.region false r103_3)
  (.cond (.slot 16)
  .skip
  (.exit 0)))
  (.seq (.block 1 (.seq (.block 2 (.loop (.seq (.seq (.region true r103_4)
  (.cond (.slot 36)
  .skip
  (.exit 2)))
  (.block 3 (.region false r103_5)))))
  (.seq (.seq (.region false r103_6)
  (.cond (.slot 41)
  (.seq (.region false r103_7)
  .ret)
  .skip))
  (.seq (.seq (.region false r103_8)
  (.cond (.slot 45)
  (.seq (.region false r103_9)
  .ret)
  .skip))
  (.seq (.region true r103_10)
  (.seq (.seq (.region false r103_11)
  (.cond (.slot 65)
  (.seq (.region false r103_12)
  (.block 4 (.loop (.seq (.seq (.region false r103_13)
  (.cond (.slot 69)
  .skip
  (.exit 4)))
  (.seq (.block 5 (.seq (.seq (.region true r103_14)
  (.cond (.slot 84)
  (.exit 4)
  .skip))
  (.region true r103_15)))
  (.region false r103_16))))))
  .skip))
  (.seq (.region false r103_17)
  (.cond (.slot 104)
  (.seq (.region false r103_18)
  (.block 6 (.loop (.seq (.seq (.region false r103_19)
  (.cond (.slot 109)
  .skip
  (.exit 6)))
  (.seq (.block 7 (.seq (.seq (.region true r103_20)
  (.cond (.slot 124)
  (.exit 6)
  .skip))
  (.region true r103_21)))
  (.region false r103_22))))))
  .skip))))))))
  (.region false r103_23))))))
  (.seq (.region false r103_24)
  .ret)))),
  [.tmp 8]⟩
theorem xf103_ok : compFunc Tryz.prog Tryz.f103 = some xf103 := by kernel_rfl
/- slices.partitionEqualCmpFunc[threshing/api.Lit] -/
def r104_0 : List XLine := [⟨⟨.mv (.const (.int .i64 (.ofNat 0))), some 10, none⟩, []⟩]
def r104_1 : List XLine := [⟨⟨.mv (.slot 0), some 13, none⟩, []⟩,
  ⟨⟨.mv (.slot 1), some 14, none⟩, []⟩,
  ⟨⟨.mv (.slot 0), some 15, none⟩, []⟩,
  ⟨⟨.mv (.slot 3), some 16, none⟩, []⟩,
  ⟨⟨.mv (.slot 0), some 17, none⟩, []⟩,
  ⟨⟨.mv (.slot 3), some 18, none⟩, []⟩,
  ⟨⟨.iaddr 1 (.slot 17) (.slot 18), some 19, none⟩, []⟩,
  ⟨⟨.load false 1 (.slot 19), some 20, none⟩, []⟩,
  ⟨⟨.mv (.slot 0), some 21, none⟩, []⟩,
  ⟨⟨.mv (.slot 1), some 22, none⟩, []⟩,
  ⟨⟨.iaddr 1 (.slot 21) (.slot 22), some 23, none⟩, []⟩,
  ⟨⟨.load false 1 (.slot 23), some 24, none⟩, []⟩,
  ⟨⟨.iaddr 1 (.slot 13) (.slot 14), some 25, none⟩, []⟩,
  ⟨⟨.store 1 (.slot 25) (.slot 20), none, none⟩, []⟩,
  ⟨⟨.iaddr 1 (.slot 15) (.slot 16), some 26, none⟩, []⟩,
  ⟨⟨.store 1 (.slot 26) (.slot 24), none, none⟩, []⟩]
def r104_2 : List XLine := [⟨⟨.mv (.slot 1), some 27, none⟩, []⟩,
  ⟨⟨.bin .add 3 .num (.slot 27) (.const (.int .i64 (.ofNat 1))), some 28, none⟩, []⟩,
  ⟨⟨.mv (.slot 2), some 29, none⟩, []⟩,
  ⟨⟨.bin .sub 3 .num (.slot 29) (.const (.int .i64 (.ofNat 1))), some 30, none⟩, []⟩,
  ⟨⟨.mv (.slot 28), some 11, none⟩, []⟩,
  ⟨⟨.mv (.slot 30), some 12, none⟩, []⟩]
def r104_3 : List XLine := [⟨⟨.mv (.slot 11), some 31, none⟩, []⟩,
  ⟨⟨.mv (.slot 12), some 32, none⟩, []⟩,
  ⟨⟨.bin .leq 3 .num (.slot 31) (.slot 32), some 33, none⟩, []⟩,
  ⟨⟨.mv (.slot 33), some 34, none⟩, []⟩,
  ⟨⟨.mv (.slot 4), some 35, some (34, true)⟩, []⟩,
  ⟨⟨.mv (.slot 0), some 36, some (34, true)⟩, []⟩,
  ⟨⟨.mv (.slot 1), some 37, some (34, true)⟩, []⟩,
  ⟨⟨.iaddr 1 (.slot 36) (.slot 37), some 38, some (34, true)⟩, []⟩,
  ⟨⟨.load false 1 (.slot 38), some 39, some (34, true)⟩, []⟩,
  ⟨⟨.mv (.slot 0), some 40, some (34, true)⟩, []⟩,
  ⟨⟨.mv (.slot 11), some 41, some (34, true)⟩, []⟩,
  ⟨⟨.iaddr 1 (.slot 40) (.slot 41), some 42, some (34, true)⟩, []⟩,
  ⟨⟨.load false 1 (.slot 42), some 43, some (34, true)⟩, []⟩,
  ⟨⟨.call (.slot 35) [(.slot 39), (.slot 43)], some 44, some (34, true)⟩, []⟩,
  ⟨⟨.bin .lss 3 .num (.slot 44) (.const (.int .i64 (.ofNat 0))), some 45, some (34, true)⟩, []⟩,
  ⟨⟨.un .not (.slot 45), some 46, some (34, true)⟩, []⟩,
  ⟨⟨.pick (.slot 34) (.slot 46) (.const (.bool false)), some 47, none⟩, []⟩]
def r104_4 : List XLine := [⟨⟨.mv (.slot 11), some 48, none⟩, []⟩,
  ⟨⟨.bin .add 3 .num (.slot 48) (.const (.int .i64 (.ofNat 1))), some 49, none⟩, []⟩,
  ⟨⟨.mv (.slot 49), some 11, none⟩, []⟩]
def r104_5 : List XLine := [⟨⟨.mv (.slot 11), some 50, none⟩, []⟩,
  ⟨⟨.mv (.slot 12), some 51, none⟩, []⟩,
  ⟨⟨.bin .leq 3 .num (.slot 50) (.slot 51), some 52, none⟩, []⟩,
  ⟨⟨.mv (.slot 52), some 53, none⟩, []⟩,
  ⟨⟨.mv (.slot 4), some 54, some (53, true)⟩, []⟩,
  ⟨⟨.mv (.slot 0), some 55, some (53, true)⟩, []⟩,
  ⟨⟨.mv (.slot 1), some 56, some (53, true)⟩, []⟩,
  ⟨⟨.iaddr 1 (.slot 55) (.slot 56), some 57, some (53, true)⟩, []⟩,
  ⟨⟨.load false 1 (.slot 57), some 58, some (53, true)⟩, []⟩,
  ⟨⟨.mv (.slot 0), some 59, some (53, true)⟩, []⟩,
  ⟨⟨.mv (.slot 12), some 60, some (53, true)⟩, []⟩,
  ⟨⟨.iaddr 1 (.slot 59) (.slot 60), some 61, some (53, true)⟩, []⟩,
  ⟨⟨.load false 1 (.slot 61), some 62, some (53, true)⟩, []⟩,
  ⟨⟨.call (.slot 54) [(.slot 58), (.slot 62)], some 63, some (53, true)⟩, []⟩,
  ⟨⟨.bin .lss 3 .num (.slot 63) (.const (.int .i64 (.ofNat 0))), some 64, some (53, true)⟩, []⟩,
  ⟨⟨.pick (.slot 53) (.slot 64) (.const (.bool false)), some 65, none⟩, []⟩]
def r104_6 : List XLine := [⟨⟨.mv (.slot 12), some 66, none⟩, []⟩,
  ⟨⟨.bin .sub 3 .num (.slot 66) (.const (.int .i64 (.ofNat 1))), some 67, none⟩, []⟩,
  ⟨⟨.mv (.slot 67), some 12, none⟩, []⟩]
def r104_7 : List XLine := [⟨⟨.mv (.slot 11), some 68, none⟩, []⟩,
  ⟨⟨.mv (.slot 12), some 69, none⟩, []⟩,
  ⟨⟨.bin .gtr 3 .num (.slot 68) (.slot 69), some 70, none⟩, []⟩]
def r104_8 : List XLine := [⟨⟨.mv (.slot 0), some 71, none⟩, []⟩,
  ⟨⟨.mv (.slot 11), some 72, none⟩, []⟩,
  ⟨⟨.mv (.slot 0), some 73, none⟩, []⟩,
  ⟨⟨.mv (.slot 12), some 74, none⟩, []⟩,
  ⟨⟨.mv (.slot 0), some 75, none⟩, []⟩,
  ⟨⟨.mv (.slot 12), some 76, none⟩, []⟩,
  ⟨⟨.iaddr 1 (.slot 75) (.slot 76), some 77, none⟩, []⟩,
  ⟨⟨.load false 1 (.slot 77), some 78, none⟩, []⟩,
  ⟨⟨.mv (.slot 0), some 79, none⟩, []⟩,
  ⟨⟨.mv (.slot 11), some 80, none⟩, []⟩,
  ⟨⟨.iaddr 1 (.slot 79) (.slot 80), some 81, none⟩, []⟩,
  ⟨⟨.load false 1 (.slot 81), some 82, none⟩, []⟩,
  ⟨⟨.iaddr 1 (.slot 71) (.slot 72), some 83, none⟩, []⟩,
  ⟨⟨.store 1 (.slot 83) (.slot 78), none, none⟩, []⟩,
  ⟨⟨.iaddr 1 (.slot 73) (.slot 74), some 84, none⟩, []⟩,
  ⟨⟨.store 1 (.slot 84) (.slot 82), none, none⟩, []⟩]
def r104_9 : List XLine := [⟨⟨.mv (.slot 11), some 85, none⟩, []⟩,
  ⟨⟨.bin .add 3 .num (.slot 85) (.const (.int .i64 (.ofNat 1))), some 86, none⟩, []⟩,
  ⟨⟨.mv (.slot 86), some 11, none⟩, []⟩]
def r104_10 : List XLine := [⟨⟨.mv (.slot 12), some 87, none⟩, []⟩,
  ⟨⟨.bin .sub 3 .num (.slot 87) (.const (.int .i64 (.ofNat 1))), some 88, none⟩, []⟩,
  ⟨⟨.mv (.slot 88), some 12, none⟩, []⟩]
def r104_11 : List XLine := [⟨⟨.mv (.slot 11), some 89, none⟩, []⟩,
  ⟨⟨.mv (.slot 89), some 10, none⟩, []⟩]
def xf104 : XFunc := ⟨(.seq (.region false r104_0)
  (.seq (.region true r104_1)
  (.seq (.region false r104_2)
  (.seq (.block 0 (.loop (.block 1 (.seq (.block 2 (.loop (.seq (.seq (.region true r104_3)
  (.cond (.slot 47)
  .skip
  (.exit 2)))
  (.block 3 (.region false r104_4)))))
  (.seq (.block 4 (.loop (.seq (.seq (.region true r104_5)
  (.cond (.slot 65)
  .skip
  (.exit 4)))
  (.block 5 (.region false r104_6)))))
  (.seq (.seq (.region false r104_7)
  (.cond (.slot 70)
  (.exit 0)
  .skip))
  (.seq (.region true r104_8)
  (.seq (.region false r104_9)
  (.region false r104_10)))))))))
  (.seq (.region false r104_11)
  .ret))))),
  [.tmp 10]⟩
theorem xf104_ok : compFunc Tryz.prog Tryz.f104 = some xf104 := by kernel_rfl
end Go.Proofs.YtcpkfdabkpeomaaGreat

/- The functions of the program in X's code, printed by a program of ours; each is what the program's own is turned to. -/
import Derived.Test.YtaljkapnfkbdbaaProg
import Derived.Test.YtaljkapnfkbdbaaW0
import Derived.KernelRfl
namespace Go.Proofs.Ytaljkapnfkbdbaa
open Go.Xr
/- slices.partitionOrdered[int64] -/
def r86_0 : List XLine := [⟨⟨.mv (.const (.int .i64 (.ofNat 0))), some 8, none⟩, []⟩,
  ⟨⟨.mv (.const (.bool false)), some 9, none⟩, []⟩]
def r86_1 : List XLine := [⟨⟨.mv (.slot 0), some 12, none⟩, []⟩,
  ⟨⟨.mv (.slot 1), some 13, none⟩, []⟩,
  ⟨⟨.mv (.slot 0), some 14, none⟩, []⟩,
  ⟨⟨.mv (.slot 3), some 15, none⟩, []⟩,
  ⟨⟨.mv (.slot 0), some 16, none⟩, []⟩,
  ⟨⟨.mv (.slot 3), some 17, none⟩, []⟩,
  ⟨⟨.iaddr 1 (.slot 16) (.slot 17), some 18, none⟩, []⟩,
  ⟨⟨.load false 1 (.slot 18), some 19, none⟩, []⟩,
  ⟨⟨.mv (.slot 0), some 20, none⟩, []⟩,
  ⟨⟨.mv (.slot 1), some 21, none⟩, []⟩,
  ⟨⟨.iaddr 1 (.slot 20) (.slot 21), some 22, none⟩, []⟩,
  ⟨⟨.load false 1 (.slot 22), some 23, none⟩, []⟩,
  ⟨⟨.iaddr 1 (.slot 12) (.slot 13), some 24, none⟩, []⟩,
  ⟨⟨.store 1 (.slot 24) (.slot 19), none, none⟩, []⟩,
  ⟨⟨.iaddr 1 (.slot 14) (.slot 15), some 25, none⟩, []⟩,
  ⟨⟨.store 1 (.slot 25) (.slot 23), none, none⟩, []⟩]
def r86_2 : List XLine := [⟨⟨.mv (.slot 1), some 26, none⟩, []⟩,
  ⟨⟨.bin .add 3 .num (.slot 26) (.const (.int .i64 (.ofNat 1))), some 27, none⟩, []⟩,
  ⟨⟨.mv (.slot 2), some 28, none⟩, []⟩,
  ⟨⟨.bin .sub 3 .num (.slot 28) (.const (.int .i64 (.ofNat 1))), some 29, none⟩, []⟩,
  ⟨⟨.mv (.slot 27), some 10, none⟩, []⟩,
  ⟨⟨.mv (.slot 29), some 11, none⟩, []⟩]
def r86_3 : List XLine := [⟨⟨.mv (.slot 10), some 30, none⟩, []⟩,
  ⟨⟨.mv (.slot 11), some 31, none⟩, []⟩,
  ⟨⟨.bin .leq 3 .num (.slot 30) (.slot 31), some 32, none⟩, []⟩,
  ⟨⟨.mv (.slot 32), some 33, none⟩, []⟩,
  ⟨⟨.mv (.slot 0), some 34, some (33, true)⟩, []⟩,
  ⟨⟨.mv (.slot 10), some 35, some (33, true)⟩, []⟩,
  ⟨⟨.iaddr 1 (.slot 34) (.slot 35), some 36, some (33, true)⟩, []⟩,
  ⟨⟨.load false 1 (.slot 36), some 37, some (33, true)⟩, []⟩,
  ⟨⟨.mv (.slot 0), some 38, some (33, true)⟩, []⟩,
  ⟨⟨.mv (.slot 1), some 39, some (33, true)⟩, []⟩,
  ⟨⟨.iaddr 1 (.slot 38) (.slot 39), some 40, some (33, true)⟩, []⟩,
  ⟨⟨.load false 1 (.slot 40), some 41, some (33, true)⟩, []⟩,
  ⟨⟨.call (.const (.func 84 [] [])) [(.slot 37), (.slot 41)], some 42, some (33, true)⟩, []⟩,
  ⟨⟨.pick (.slot 33) (.slot 42) (.const (.bool false)), some 43, none⟩, []⟩]
def r86_4 : List XLine := [⟨⟨.mv (.slot 10), some 44, none⟩, []⟩,
  ⟨⟨.bin .add 3 .num (.slot 44) (.const (.int .i64 (.ofNat 1))), some 45, none⟩, []⟩,
  ⟨⟨.mv (.slot 45), some 10, none⟩, []⟩]
def r86_5 : List XLine := [⟨⟨.mv (.slot 10), some 46, none⟩, []⟩,
  ⟨⟨.mv (.slot 11), some 47, none⟩, []⟩,
  ⟨⟨.bin .leq 3 .num (.slot 46) (.slot 47), some 48, none⟩, []⟩,
  ⟨⟨.mv (.slot 48), some 49, none⟩, []⟩,
  ⟨⟨.mv (.slot 0), some 50, some (49, true)⟩, []⟩,
  ⟨⟨.mv (.slot 11), some 51, some (49, true)⟩, []⟩,
  ⟨⟨.iaddr 1 (.slot 50) (.slot 51), some 52, some (49, true)⟩, []⟩,
  ⟨⟨.load false 1 (.slot 52), some 53, some (49, true)⟩, []⟩,
  ⟨⟨.mv (.slot 0), some 54, some (49, true)⟩, []⟩,
  ⟨⟨.mv (.slot 1), some 55, some (49, true)⟩, []⟩,
  ⟨⟨.iaddr 1 (.slot 54) (.slot 55), some 56, some (49, true)⟩, []⟩,
  ⟨⟨.load false 1 (.slot 56), some 57, some (49, true)⟩, []⟩,
  ⟨⟨.call (.const (.func 84 [] [])) [(.slot 53), (.slot 57)], some 58, some (49, true)⟩, []⟩,
  ⟨⟨.un .not (.slot 58), some 59, some (49, true)⟩, []⟩,
  ⟨⟨.pick (.slot 49) (.slot 59) (.const (.bool false)), some 60, none⟩, []⟩]
def r86_6 : List XLine := [⟨⟨.mv (.slot 11), some 61, none⟩, []⟩,
  ⟨⟨.bin .sub 3 .num (.slot 61) (.const (.int .i64 (.ofNat 1))), some 62, none⟩, []⟩,
  ⟨⟨.mv (.slot 62), some 11, none⟩, []⟩]
def r86_7 : List XLine := [⟨⟨.mv (.slot 10), some 63, none⟩, []⟩,
  ⟨⟨.mv (.slot 11), some 64, none⟩, []⟩,
  ⟨⟨.bin .gtr 3 .num (.slot 63) (.slot 64), some 65, none⟩, []⟩]
def r86_8 : List XLine := [⟨⟨.mv (.slot 0), some 66, none⟩, []⟩,
  ⟨⟨.mv (.slot 11), some 67, none⟩, []⟩,
  ⟨⟨.mv (.slot 0), some 68, none⟩, []⟩,
  ⟨⟨.mv (.slot 1), some 69, none⟩, []⟩,
  ⟨⟨.mv (.slot 0), some 70, none⟩, []⟩,
  ⟨⟨.mv (.slot 1), some 71, none⟩, []⟩,
  ⟨⟨.iaddr 1 (.slot 70) (.slot 71), some 72, none⟩, []⟩,
  ⟨⟨.load false 1 (.slot 72), some 73, none⟩, []⟩,
  ⟨⟨.mv (.slot 0), some 74, none⟩, []⟩,
  ⟨⟨.mv (.slot 11), some 75, none⟩, []⟩,
  ⟨⟨.iaddr 1 (.slot 74) (.slot 75), some 76, none⟩, []⟩,
  ⟨⟨.load false 1 (.slot 76), some 77, none⟩, []⟩,
  ⟨⟨.iaddr 1 (.slot 66) (.slot 67), some 78, none⟩, []⟩,
  ⟨⟨.store 1 (.slot 78) (.slot 73), none, none⟩, []⟩,
  ⟨⟨.iaddr 1 (.slot 68) (.slot 69), some 79, none⟩, []⟩,
  ⟨⟨.store 1 (.slot 79) (.slot 77), none, none⟩, []⟩]
def r86_9 : List XLine := [⟨⟨.mv (.slot 11), some 80, none⟩, []⟩,
  ⟨⟨.mv (.slot 80), some 8, none⟩, []⟩,
  ⟨⟨.mv (.const (.bool true)), some 9, none⟩, []⟩]
def r86_10 : List XLine := [⟨⟨.mv (.slot 0), some 81, none⟩, []⟩,
  ⟨⟨.mv (.slot 10), some 82, none⟩, []⟩,
  ⟨⟨.mv (.slot 0), some 83, none⟩, []⟩,
  ⟨⟨.mv (.slot 11), some 84, none⟩, []⟩,
  ⟨⟨.mv (.slot 0), some 85, none⟩, []⟩,
  ⟨⟨.mv (.slot 11), some 86, none⟩, []⟩,
  ⟨⟨.iaddr 1 (.slot 85) (.slot 86), some 87, none⟩, []⟩,
  ⟨⟨.load false 1 (.slot 87), some 88, none⟩, []⟩,
  ⟨⟨.mv (.slot 0), some 89, none⟩, []⟩,
  ⟨⟨.mv (.slot 10), some 90, none⟩, []⟩,
  ⟨⟨.iaddr 1 (.slot 89) (.slot 90), some 91, none⟩, []⟩,
  ⟨⟨.load false 1 (.slot 91), some 92, none⟩, []⟩,
  ⟨⟨.iaddr 1 (.slot 81) (.slot 82), some 93, none⟩, []⟩,
  ⟨⟨.store 1 (.slot 93) (.slot 88), none, none⟩, []⟩,
  ⟨⟨.iaddr 1 (.slot 83) (.slot 84), some 94, none⟩, []⟩,
  ⟨⟨.store 1 (.slot 94) (.slot 92), none, none⟩, []⟩]
def r86_11 : List XLine := [⟨⟨.mv (.slot 10), some 95, none⟩, []⟩,
  ⟨⟨.bin .add 3 .num (.slot 95) (.const (.int .i64 (.ofNat 1))), some 96, none⟩, []⟩,
  ⟨⟨.mv (.slot 96), some 10, none⟩, []⟩]
def r86_12 : List XLine := [⟨⟨.mv (.slot 11), some 97, none⟩, []⟩,
  ⟨⟨.bin .sub 3 .num (.slot 97) (.const (.int .i64 (.ofNat 1))), some 98, none⟩, []⟩,
  ⟨⟨.mv (.slot 98), some 11, none⟩, []⟩]
def r86_13 : List XLine := [⟨⟨.mv (.slot 10), some 99, none⟩, []⟩,
  ⟨⟨.mv (.slot 11), some 100, none⟩, []⟩,
  ⟨⟨.bin .leq 3 .num (.slot 99) (.slot 100), some 101, none⟩, []⟩,
  ⟨⟨.mv (.slot 101), some 102, none⟩, []⟩,
  ⟨⟨.mv (.slot 0), some 103, some (102, true)⟩, []⟩,
  ⟨⟨.mv (.slot 10), some 104, some (102, true)⟩, []⟩,
  ⟨⟨.iaddr 1 (.slot 103) (.slot 104), some 105, some (102, true)⟩, []⟩,
  ⟨⟨.load false 1 (.slot 105), some 106, some (102, true)⟩, []⟩,
  ⟨⟨.mv (.slot 0), some 107, some (102, true)⟩, []⟩,
  ⟨⟨.mv (.slot 1), some 108, some (102, true)⟩, []⟩,
  ⟨⟨.iaddr 1 (.slot 107) (.slot 108), some 109, some (102, true)⟩, []⟩,
  ⟨⟨.load false 1 (.slot 109), some 110, some (102, true)⟩, []⟩,
  ⟨⟨.call (.const (.func 84 [] [])) [(.slot 106), (.slot 110)], some 111, some (102, true)⟩, []⟩,
  ⟨⟨.pick (.slot 102) (.slot 111) (.const (.bool false)), some 112, none⟩, []⟩]
def r86_14 : List XLine := [⟨⟨.mv (.slot 10), some 113, none⟩, []⟩,
  ⟨⟨.bin .add 3 .num (.slot 113) (.const (.int .i64 (.ofNat 1))), some 114, none⟩, []⟩,
  ⟨⟨.mv (.slot 114), some 10, none⟩, []⟩]
def r86_15 : List XLine := [⟨⟨.mv (.slot 10), some 115, none⟩, []⟩,
  ⟨⟨.mv (.slot 11), some 116, none⟩, []⟩,
  ⟨⟨.bin .leq 3 .num (.slot 115) (.slot 116), some 117, none⟩, []⟩,
  ⟨⟨.mv (.slot 117), some 118, none⟩, []⟩,
  ⟨⟨.mv (.slot 0), some 119, some (118, true)⟩, []⟩,
  ⟨⟨.mv (.slot 11), some 120, some (118, true)⟩, []⟩,
  ⟨⟨.iaddr 1 (.slot 119) (.slot 120), some 121, some (118, true)⟩, []⟩,
  ⟨⟨.load false 1 (.slot 121), some 122, some (118, true)⟩, []⟩,
  ⟨⟨.mv (.slot 0), some 123, some (118, true)⟩, []⟩,
  ⟨⟨.mv (.slot 1), some 124, some (118, true)⟩, []⟩,
  ⟨⟨.iaddr 1 (.slot 123) (.slot 124), some 125, some (118, true)⟩, []⟩,
  ⟨⟨.load false 1 (.slot 125), some 126, some (118, true)⟩, []⟩,
  ⟨⟨.call (.const (.func 84 [] [])) [(.slot 122), (.slot 126)], some 127, some (118, true)⟩, []⟩,
  ⟨⟨.un .not (.slot 127), some 128, some (118, true)⟩, []⟩,
  ⟨⟨.pick (.slot 118) (.slot 128) (.const (.bool false)), some 129, none⟩, []⟩]
def r86_16 : List XLine := [⟨⟨.mv (.slot 11), some 130, none⟩, []⟩,
  ⟨⟨.bin .sub 3 .num (.slot 130) (.const (.int .i64 (.ofNat 1))), some 131, none⟩, []⟩,
  ⟨⟨.mv (.slot 131), some 11, none⟩, []⟩]
def r86_17 : List XLine := [⟨⟨.mv (.slot 10), some 132, none⟩, []⟩,
  ⟨⟨.mv (.slot 11), some 133, none⟩, []⟩,
  ⟨⟨.bin .gtr 3 .num (.slot 132) (.slot 133), some 134, none⟩, []⟩]
def r86_18 : List XLine := [⟨⟨.mv (.slot 0), some 135, none⟩, []⟩,
  ⟨⟨.mv (.slot 10), some 136, none⟩, []⟩,
  ⟨⟨.mv (.slot 0), some 137, none⟩, []⟩,
  ⟨⟨.mv (.slot 11), some 138, none⟩, []⟩,
  ⟨⟨.mv (.slot 0), some 139, none⟩, []⟩,
  ⟨⟨.mv (.slot 11), some 140, none⟩, []⟩,
  ⟨⟨.iaddr 1 (.slot 139) (.slot 140), some 141, none⟩, []⟩,
  ⟨⟨.load false 1 (.slot 141), some 142, none⟩, []⟩,
  ⟨⟨.mv (.slot 0), some 143, none⟩, []⟩,
  ⟨⟨.mv (.slot 10), some 144, none⟩, []⟩,
  ⟨⟨.iaddr 1 (.slot 143) (.slot 144), some 145, none⟩, []⟩,
  ⟨⟨.load false 1 (.slot 145), some 146, none⟩, []⟩,
  ⟨⟨.iaddr 1 (.slot 135) (.slot 136), some 147, none⟩, []⟩,
  ⟨⟨.store 1 (.slot 147) (.slot 142), none, none⟩, []⟩,
  ⟨⟨.iaddr 1 (.slot 137) (.slot 138), some 148, none⟩, []⟩,
  ⟨⟨.store 1 (.slot 148) (.slot 146), none, none⟩, []⟩]
def r86_19 : List XLine := [⟨⟨.mv (.slot 10), some 149, none⟩, []⟩,
  ⟨⟨.bin .add 3 .num (.slot 149) (.const (.int .i64 (.ofNat 1))), some 150, none⟩, []⟩,
  ⟨⟨.mv (.slot 150), some 10, none⟩, []⟩]
def r86_20 : List XLine := [⟨⟨.mv (.slot 11), some 151, none⟩, []⟩,
  ⟨⟨.bin .sub 3 .num (.slot 151) (.const (.int .i64 (.ofNat 1))), some 152, none⟩, []⟩,
  ⟨⟨.mv (.slot 152), some 11, none⟩, []⟩]
def r86_21 : List XLine := [⟨⟨.mv (.slot 0), some 153, none⟩, []⟩,
  ⟨⟨.mv (.slot 11), some 154, none⟩, []⟩,
  ⟨⟨.mv (.slot 0), some 155, none⟩, []⟩,
  ⟨⟨.mv (.slot 1), some 156, none⟩, []⟩,
  ⟨⟨.mv (.slot 0), some 157, none⟩, []⟩,
  ⟨⟨.mv (.slot 1), some 158, none⟩, []⟩,
  ⟨⟨.iaddr 1 (.slot 157) (.slot 158), some 159, none⟩, []⟩,
  ⟨⟨.load false 1 (.slot 159), some 160, none⟩, []⟩,
  ⟨⟨.mv (.slot 0), some 161, none⟩, []⟩,
  ⟨⟨.mv (.slot 11), some 162, none⟩, []⟩,
  ⟨⟨.iaddr 1 (.slot 161) (.slot 162), some 163, none⟩, []⟩,
  ⟨⟨.load false 1 (.slot 163), some 164, none⟩, []⟩,
  ⟨⟨.iaddr 1 (.slot 153) (.slot 154), some 165, none⟩, []⟩,
  ⟨⟨.store 1 (.slot 165) (.slot 160), none, none⟩, []⟩,
  ⟨⟨.iaddr 1 (.slot 155) (.slot 156), some 166, none⟩, []⟩,
  ⟨⟨.store 1 (.slot 166) (.slot 164), none, none⟩, []⟩]
def r86_22 : List XLine := [⟨⟨.mv (.slot 11), some 167, none⟩, []⟩,
  ⟨⟨.mv (.slot 167), some 8, none⟩, []⟩,
  ⟨⟨.mv (.const (.bool false)), some 9, none⟩, []⟩]
def xf86 : XFunc := ⟨(.seq (.region false r86_0)
  (.seq (.region true r86_1)
  (.seq (.region false r86_2)
  (.seq (.block 0 (.loop (.seq (.seq (.region true r86_3)
  (.cond (.slot 43)
  .skip
  (.exit 0)))
  (.block 1 (.region false r86_4)))))
  (.seq (.block 2 (.loop (.seq (.seq (.region true r86_5)
  (.cond (.slot 60)
  .skip
  (.exit 2)))
  (.block 3 (.region false r86_6)))))
  (.seq (.seq (.region false r86_7)
  (.cond (.slot 65)
  (.seq (.region true r86_8)
  (.seq (.region false r86_9)
  .ret))
  .skip))
  (.seq (.region true r86_10)
  (.seq (.region false r86_11)
  (.seq (.region false r86_12)
  (.seq (.block 4 (.loop (.block 5 (.seq (.block 6 (.loop (.seq (.seq (.region true r86_13)
  (.cond (.slot 112)
  .skip
  (.exit 6)))
  (.block 7 (.region false r86_14)))))
  (.seq (.block 8 (.loop (.seq (.seq (.region true r86_15)
  (.cond (.slot 129)
  .skip
  (.exit 8)))
  (.block 9 (.region false r86_16)))))
  (.seq (.seq (.region false r86_17)
  (.cond (.slot 134)
  (.exit 4)
  .skip))
  (.seq (.region true r86_18)
  (.seq (.region false r86_19)
  (.region false r86_20)))))))))
  (.seq (.region true r86_21)
  (.seq (.region false r86_22)
  .ret)))))))))))),
  [.tmp 8, .tmp 9]⟩
theorem xf86_ok : compFunc Try.prog Try.f86 = some xf86 := by kernel_rfl
/- slices.siftDownCmpFunc[threshing/api.Lit] -/
def r87_0 : List XLine := [⟨⟨.mv (.slot 1), some 12, none⟩, []⟩,
  ⟨⟨.mv (.slot 12), some 10, none⟩, []⟩]
def r87_1 : List XLine := [⟨⟨.mv (.slot 10), some 13, none⟩, []⟩,
  ⟨⟨.bin .mul 3 .num (.const (.int .i64 (.ofNat 2))) (.slot 13), some 14, none⟩, []⟩,
  ⟨⟨.bin .add 3 .num (.slot 14) (.const (.int .i64 (.ofNat 1))), some 15, none⟩, []⟩,
  ⟨⟨.mv (.slot 15), some 11, none⟩, []⟩]
def r87_2 : List XLine := [⟨⟨.mv (.slot 11), some 16, none⟩, []⟩,
  ⟨⟨.mv (.slot 2), some 17, none⟩, []⟩,
  ⟨⟨.bin .geq 3 .num (.slot 16) (.slot 17), some 18, none⟩, []⟩]
def r87_3 : List XLine := [⟨⟨.mv (.slot 11), some 19, none⟩, []⟩,
  ⟨⟨.bin .add 3 .num (.slot 19) (.const (.int .i64 (.ofNat 1))), some 20, none⟩, []⟩,
  ⟨⟨.mv (.slot 2), some 21, none⟩, []⟩,
  ⟨⟨.bin .lss 3 .num (.slot 20) (.slot 21), some 22, none⟩, []⟩,
  ⟨⟨.mv (.slot 22), some 23, none⟩, []⟩,
  ⟨⟨.mv (.slot 4), some 24, some (23, true)⟩, []⟩,
  ⟨⟨.mv (.slot 0), some 25, some (23, true)⟩, []⟩,
  ⟨⟨.mv (.slot 3), some 26, some (23, true)⟩, []⟩,
  ⟨⟨.mv (.slot 11), some 27, some (23, true)⟩, []⟩,
  ⟨⟨.bin .add 3 .num (.slot 26) (.slot 27), some 28, some (23, true)⟩, []⟩,
  ⟨⟨.iaddr 1 (.slot 25) (.slot 28), some 29, some (23, true)⟩, []⟩,
  ⟨⟨.load false 1 (.slot 29), some 30, some (23, true)⟩, []⟩,
  ⟨⟨.mv (.slot 0), some 31, some (23, true)⟩, []⟩,
  ⟨⟨.mv (.slot 3), some 32, some (23, true)⟩, []⟩,
  ⟨⟨.mv (.slot 11), some 33, some (23, true)⟩, []⟩,
  ⟨⟨.bin .add 3 .num (.slot 32) (.slot 33), some 34, some (23, true)⟩, []⟩,
  ⟨⟨.bin .add 3 .num (.slot 34) (.const (.int .i64 (.ofNat 1))), some 35, some (23, true)⟩, []⟩,
  ⟨⟨.iaddr 1 (.slot 31) (.slot 35), some 36, some (23, true)⟩, []⟩,
  ⟨⟨.load false 1 (.slot 36), some 37, some (23, true)⟩, []⟩,
  ⟨⟨.call (.slot 24) [(.slot 30), (.slot 37)], some 38, some (23, true)⟩, []⟩,
  ⟨⟨.bin .lss 3 .num (.slot 38) (.const (.int .i64 (.ofNat 0))), some 39, some (23, true)⟩, []⟩,
  ⟨⟨.pick (.slot 23) (.slot 39) (.const (.bool false)), some 40, none⟩, []⟩]
def r87_4 : List XLine := [⟨⟨.mv (.slot 11), some 41, none⟩, []⟩,
  ⟨⟨.bin .add 3 .num (.slot 41) (.const (.int .i64 (.ofNat 1))), some 42, none⟩, []⟩,
  ⟨⟨.mv (.slot 42), some 11, none⟩, []⟩]
def r87_5 : List XLine := [⟨⟨.mv (.slot 4), some 43, none⟩, []⟩,
  ⟨⟨.mv (.slot 0), some 44, none⟩, []⟩,
  ⟨⟨.mv (.slot 3), some 45, none⟩, []⟩,
  ⟨⟨.mv (.slot 10), some 46, none⟩, []⟩,
  ⟨⟨.bin .add 3 .num (.slot 45) (.slot 46), some 47, none⟩, []⟩,
  ⟨⟨.iaddr 1 (.slot 44) (.slot 47), some 48, none⟩, []⟩,
  ⟨⟨.load false 1 (.slot 48), some 49, none⟩, []⟩,
  ⟨⟨.mv (.slot 0), some 50, none⟩, []⟩,
  ⟨⟨.mv (.slot 3), some 51, none⟩, []⟩,
  ⟨⟨.mv (.slot 11), some 52, none⟩, []⟩,
  ⟨⟨.bin .add 3 .num (.slot 51) (.slot 52), some 53, none⟩, []⟩,
  ⟨⟨.iaddr 1 (.slot 50) (.slot 53), some 54, none⟩, []⟩,
  ⟨⟨.load false 1 (.slot 54), some 55, none⟩, []⟩,
  ⟨⟨.call (.slot 43) [(.slot 49), (.slot 55)], some 56, none⟩, []⟩,
  ⟨⟨.bin .lss 3 .num (.slot 56) (.const (.int .i64 (.ofNat 0))), some 57, none⟩, []⟩,
  ⟨⟨.un .not (.slot 57), some 58, none⟩, []⟩]
def r87_6 : List XLine := [⟨⟨.mv (.slot 0), some 59, none⟩, []⟩,
  ⟨⟨.mv (.slot 3), some 60, none⟩, []⟩,
  ⟨⟨.mv (.slot 10), some 61, none⟩, []⟩,
  ⟨⟨.bin .add 3 .num (.slot 60) (.slot 61), some 62, none⟩, []⟩,
  ⟨⟨.mv (.slot 0), some 63, none⟩, []⟩,
  ⟨⟨.mv (.slot 3), some 64, none⟩, []⟩,
  ⟨⟨.mv (.slot 11), some 65, none⟩, []⟩,
  ⟨⟨.bin .add 3 .num (.slot 64) (.slot 65), some 66, none⟩, []⟩,
  ⟨⟨.mv (.slot 0), some 67, none⟩, []⟩,
  ⟨⟨.mv (.slot 3), some 68, none⟩, []⟩,
  ⟨⟨.mv (.slot 11), some 69, none⟩, []⟩,
  ⟨⟨.bin .add 3 .num (.slot 68) (.slot 69), some 70, none⟩, []⟩,
  ⟨⟨.iaddr 1 (.slot 67) (.slot 70), some 71, none⟩, []⟩,
  ⟨⟨.load false 1 (.slot 71), some 72, none⟩, []⟩,
  ⟨⟨.mv (.slot 0), some 73, none⟩, []⟩,
  ⟨⟨.mv (.slot 3), some 74, none⟩, []⟩,
  ⟨⟨.mv (.slot 10), some 75, none⟩, []⟩,
  ⟨⟨.bin .add 3 .num (.slot 74) (.slot 75), some 76, none⟩, []⟩,
  ⟨⟨.iaddr 1 (.slot 73) (.slot 76), some 77, none⟩, []⟩,
  ⟨⟨.load false 1 (.slot 77), some 78, none⟩, []⟩,
  ⟨⟨.iaddr 1 (.slot 59) (.slot 62), some 79, none⟩, []⟩,
  ⟨⟨.store 1 (.slot 79) (.slot 72), none, none⟩, []⟩,
  ⟨⟨.iaddr 1 (.slot 63) (.slot 66), some 80, none⟩, []⟩,
  ⟨⟨.store 1 (.slot 80) (.slot 78), none, none⟩, []⟩]
def r87_7 : List XLine := [⟨⟨.mv (.slot 11), some 81, none⟩, []⟩,
  ⟨⟨.mv (.slot 81), some 10, none⟩, []⟩]
def xf87 : XFunc := ⟨(.seq (.region false r87_0)
  (.block 0 (.loop (.block 1 (.seq (.region false r87_1)
  (.seq (.seq (.region false r87_2)
  (.cond (.slot 18)
  (.exit 0)
  .skip))
  (.seq (.seq (.region true r87_3)
  (.cond (.slot 40)
  (.region false r87_4)
  .skip))
  (.seq (.seq (.region true r87_5)
  (.cond (.slot 58)
  .ret
  .skip))
  (.seq (.region true r87_6)
  (.region false r87_7)))))))))),
  []⟩
theorem xf87_ok : compFunc Try.prog Try.f87 = some xf87 := by kernel_rfl
/- slices.nextPowerOfTwo -/
def r88_0 : List XLine := [⟨⟨.mv (.const (.int .u64 (.ofNat 0))), some 2, none⟩, []⟩]
def r88_1 : List XLine := [⟨⟨.mv (.slot 0), some 3, none⟩, []⟩,
  ⟨⟨.conv .u64 (.slot 3), some 4, none⟩, []⟩,
  ⟨⟨.call (.const (.func 44 [] [])) [(.slot 4)], some 5, none⟩, []⟩,
  ⟨⟨.bin .shl 98 .num (.const (.int .u64 (.ofNat 1))) (.slot 5), some 6, none⟩, []⟩,
  ⟨⟨.mv (.slot 6), some 2, none⟩, []⟩]
def xf88 : XFunc := ⟨(.seq (.region false r88_0)
  (.seq (.region false r88_1)
  .ret)),
  [.tmp 2]⟩
theorem xf88_ok : compFunc Try.prog Try.f88 = some xf88 := by kernel_rfl
/- (*slices.xorshift).Next -/
def r89_0 : List XLine := [⟨⟨.mv (.const (.int .u64 (.ofNat 0))), some 2, none⟩, []⟩]
def r89_1 : List XLine := [⟨⟨.mv (.slot 0), some 3, none⟩, []⟩,
  ⟨⟨.nilCheck (.slot 3), some 4, none⟩, []⟩,
  ⟨⟨.load false 1 (.slot 4), some 5, none⟩, []⟩,
  ⟨⟨.mv (.slot 0), some 6, none⟩, []⟩,
  ⟨⟨.nilCheck (.slot 6), some 7, none⟩, []⟩,
  ⟨⟨.load false 1 (.slot 7), some 8, none⟩, []⟩,
  ⟨⟨.bin .shl 134 .num (.slot 8) (.const (.int .u64 (.ofNat 13))), some 9, none⟩, []⟩,
  ⟨⟨.bin .xor 134 .num (.slot 5) (.slot 9), some 10, none⟩, []⟩,
  ⟨⟨.nilCheck (.slot 3), some 11, none⟩, []⟩,
  ⟨⟨.store 1 (.slot 11) (.slot 10), none, none⟩, []⟩]
def r89_2 : List XLine := [⟨⟨.mv (.slot 0), some 12, none⟩, []⟩,
  ⟨⟨.nilCheck (.slot 12), some 13, none⟩, []⟩,
  ⟨⟨.load false 1 (.slot 13), some 14, none⟩, []⟩,
  ⟨⟨.mv (.slot 0), some 15, none⟩, []⟩,
  ⟨⟨.nilCheck (.slot 15), some 16, none⟩, []⟩,
  ⟨⟨.load false 1 (.slot 16), some 17, none⟩, []⟩,
  ⟨⟨.bin .shr 134 .num (.slot 17) (.const (.int .u64 (.ofNat 7))), some 18, none⟩, []⟩,
  ⟨⟨.bin .xor 134 .num (.slot 14) (.slot 18), some 19, none⟩, []⟩,
  ⟨⟨.nilCheck (.slot 12), some 20, none⟩, []⟩,
  ⟨⟨.store 1 (.slot 20) (.slot 19), none, none⟩, []⟩]
def r89_3 : List XLine := [⟨⟨.mv (.slot 0), some 21, none⟩, []⟩,
  ⟨⟨.nilCheck (.slot 21), some 22, none⟩, []⟩,
  ⟨⟨.load false 1 (.slot 22), some 23, none⟩, []⟩,
  ⟨⟨.mv (.slot 0), some 24, none⟩, []⟩,
  ⟨⟨.nilCheck (.slot 24), some 25, none⟩, []⟩,
  ⟨⟨.load false 1 (.slot 25), some 26, none⟩, []⟩,
  ⟨⟨.bin .shl 134 .num (.slot 26) (.const (.int .u64 (.ofNat 17))), some 27, none⟩, []⟩,
  ⟨⟨.bin .xor 134 .num (.slot 23) (.slot 27), some 28, none⟩, []⟩,
  ⟨⟨.nilCheck (.slot 21), some 29, none⟩, []⟩,
  ⟨⟨.store 1 (.slot 29) (.slot 28), none, none⟩, []⟩]
def r89_4 : List XLine := [⟨⟨.mv (.slot 0), some 30, none⟩, []⟩,
  ⟨⟨.nilCheck (.slot 30), some 31, none⟩, []⟩,
  ⟨⟨.load false 1 (.slot 31), some 32, none⟩, []⟩,
  ⟨⟨.mv (.slot 32), some 2, none⟩, []⟩]
def xf89 : XFunc := ⟨(.seq (.region false r89_0)
  (.seq (.region true r89_1)
  (.seq (.region true r89_2)
  (.seq (.region true r89_3)
  (.seq (.region false r89_4)
  .ret))))),
  [.tmp 2]⟩
theorem xf89_ok : compFunc Try.prog Try.f89 = some xf89 := by kernel_rfl
/- slices.medianAdjacentCmpFunc[threshing/api.Lit] -/
def r90_0 : List XLine := [⟨⟨.mv (.const (.int .i64 (.ofNat 0))), some 8, none⟩, []⟩]
def r90_1 : List XLine := [⟨⟨.mv (.slot 0), some 9, none⟩, []⟩,
  ⟨⟨.mv (.slot 1), some 10, none⟩, []⟩,
  ⟨⟨.bin .sub 3 .num (.slot 10) (.const (.int .i64 (.ofNat 1))), some 11, none⟩, []⟩,
  ⟨⟨.mv (.slot 1), some 12, none⟩, []⟩,
  ⟨⟨.mv (.slot 1), some 13, none⟩, []⟩,
  ⟨⟨.bin .add 3 .num (.slot 13) (.const (.int .i64 (.ofNat 1))), some 14, none⟩, []⟩,
  ⟨⟨.mv (.slot 2), some 15, none⟩, []⟩,
  ⟨⟨.mv (.slot 3), some 16, none⟩, []⟩,
  ⟨⟨.call (.const (.func 91 [] [])) [(.slot 9), (.slot 11), (.slot 12), (.slot 14), (.slot 15), (.slot 16)], some 17, none⟩, []⟩,
  ⟨⟨.mv (.slot 17), some 8, none⟩, []⟩]
def xf90 : XFunc := ⟨(.seq (.region false r90_0)
  (.seq (.region false r90_1)
  .ret)),
  [.tmp 8]⟩
theorem xf90_ok : compFunc Try.prog Try.f90 = some xf90 := by kernel_rfl
/- slices.medianCmpFunc[threshing/api.Lit] -/
def r91_0 : List XLine := [⟨⟨.mv (.const (.int .i64 (.ofNat 0))), some 12, none⟩, []⟩]
def r91_1 : List XLine := [⟨⟨.mv (.slot 0), some 14, none⟩, []⟩,
  ⟨⟨.mv (.slot 1), some 15, none⟩, []⟩,
  ⟨⟨.mv (.slot 2), some 16, none⟩, []⟩,
  ⟨⟨.mv (.slot 4), some 17, none⟩, []⟩,
  ⟨⟨.mv (.slot 5), some 18, none⟩, []⟩,
  ⟨⟨.call (.const (.func 97 [] [])) [(.slot 14), (.slot 15), (.slot 16), (.slot 17), (.slot 18)], some 19, none⟩, []⟩,
  ⟨⟨.mv (.slot 19), some 13, none⟩, []⟩,
  ⟨⟨.extract (.slot 13) 0, some 20, none⟩, []⟩,
  ⟨⟨.extract (.slot 13) 1, some 21, none⟩, []⟩,
  ⟨⟨.mv (.slot 20), some 1, none⟩, []⟩,
  ⟨⟨.mv (.slot 21), some 2, none⟩, []⟩]
def r91_2 : List XLine := [⟨⟨.mv (.slot 0), some 23, none⟩, []⟩,
  ⟨⟨.mv (.slot 2), some 24, none⟩, []⟩,
  ⟨⟨.mv (.slot 3), some 25, none⟩, []⟩,
  ⟨⟨.mv (.slot 4), some 26, none⟩, []⟩,
  ⟨⟨.mv (.slot 5), some 27, none⟩, []⟩,
  ⟨⟨.call (.const (.func 97 [] [])) [(.slot 23), (.slot 24), (.slot 25), (.slot 26), (.slot 27)], some 28, none⟩, []⟩,
  ⟨⟨.mv (.slot 28), some 22, none⟩, []⟩,
  ⟨⟨.extract (.slot 22) 0, some 29, none⟩, []⟩,
  ⟨⟨.extract (.slot 22) 1, some 30, none⟩, []⟩,
  ⟨⟨.mv (.slot 29), some 2, none⟩, []⟩,
  ⟨⟨.mv (.slot 30), some 3, none⟩, []⟩]
def r91_3 : List XLine := [⟨⟨.mv (.slot 0), some 32, none⟩, []⟩,
  ⟨⟨.mv (.slot 1), some 33, none⟩, []⟩,
  ⟨⟨.mv (.slot 2), some 34, none⟩, []⟩,
  ⟨⟨.mv (.slot 4), some 35, none⟩, []⟩,
  ⟨⟨.mv (.slot 5), some 36, none⟩, []⟩,
  ⟨⟨.call (.const (.func 97 [] [])) [(.slot 32), (.slot 33), (.slot 34), (.slot 35), (.slot 36)], some 37, none⟩, []⟩,
  ⟨⟨.mv (.slot 37), some 31, none⟩, []⟩,
  ⟨⟨.extract (.slot 31) 0, some 38, none⟩, []⟩,
  ⟨⟨.extract (.slot 31) 1, some 39, none⟩, []⟩,
  ⟨⟨.mv (.slot 38), some 1, none⟩, []⟩,
  ⟨⟨.mv (.slot 39), some 2, none⟩, []⟩]
def r91_4 : List XLine := [⟨⟨.mv (.slot 2), some 40, none⟩, []⟩,
  ⟨⟨.mv (.slot 40), some 12, none⟩, []⟩]
def xf91 : XFunc := ⟨(.seq (.region false r91_0)
  (.seq (.region false r91_1)
  (.seq (.region false r91_2)
  (.seq (.region false r91_3)
  (.seq (.region false r91_4)
  .ret))))),
  [.tmp 12]⟩
theorem xf91_ok : compFunc Try.prog Try.f91 = some xf91 := by kernel_rfl
/- maps.Keys[map[int64]bool,int64,bool]$1 -/
def r92_0 : List XLine := [⟨⟨.load false 1 (.slot 1), some 4, none⟩, []⟩,
  ⟨⟨.range .i64 (.slot 4), some 5, none⟩, []⟩]
def r92_1 : List XLine := [⟨⟨.next (.slot 5), some 6, none⟩, []⟩,
  ⟨⟨.extract (.slot 6) 0, some 7, none⟩, []⟩]
def r92_2 : List XLine := [⟨⟨.entry (.slot 5), some 8, none⟩, []⟩,
  ⟨⟨.extract (.slot 8) 0, some 9, none⟩, []⟩,
  ⟨⟨.mv (.slot 9), some 3, none⟩, []⟩]
def r92_3 : List XLine := [⟨⟨.mv (.slot 0), some 10, none⟩, []⟩,
  ⟨⟨.mv (.slot 3), some 11, none⟩, []⟩,
  ⟨⟨.call (.slot 10) [(.slot 11)], some 12, none⟩, []⟩,
  ⟨⟨.un .not (.slot 12), some 13, none⟩, []⟩]
def xf92 : XFunc := ⟨(.seq (.region false r92_0)
  (.block 0 (.loop (.seq (.region false r92_1)
  (.seq (.cond (.slot 7)
  .skip
  (.exit 0))
  (.block 1 (.seq (.region false r92_2)
  (.seq (.region false r92_3)
  (.cond (.slot 13)
  .ret
  .skip))))))))),
  []⟩
theorem xf92_ok : compFunc Try.prog Try.f92 = some xf92 := by kernel_rfl
/- slices.siftDownOrdered[int64] -/
def r93_0 : List XLine := [⟨⟨.mv (.slot 1), some 10, none⟩, []⟩,
  ⟨⟨.mv (.slot 10), some 8, none⟩, []⟩]
def r93_1 : List XLine := [⟨⟨.mv (.slot 8), some 11, none⟩, []⟩,
  ⟨⟨.bin .mul 3 .num (.const (.int .i64 (.ofNat 2))) (.slot 11), some 12, none⟩, []⟩,
  ⟨⟨.bin .add 3 .num (.slot 12) (.const (.int .i64 (.ofNat 1))), some 13, none⟩, []⟩,
  ⟨⟨.mv (.slot 13), some 9, none⟩, []⟩]
def r93_2 : List XLine := [⟨⟨.mv (.slot 9), some 14, none⟩, []⟩,
  ⟨⟨.mv (.slot 2), some 15, none⟩, []⟩,
  ⟨⟨.bin .geq 3 .num (.slot 14) (.slot 15), some 16, none⟩, []⟩]
def r93_3 : List XLine := [⟨⟨.mv (.slot 9), some 17, none⟩, []⟩,
  ⟨⟨.bin .add 3 .num (.slot 17) (.const (.int .i64 (.ofNat 1))), some 18, none⟩, []⟩,
  ⟨⟨.mv (.slot 2), some 19, none⟩, []⟩,
  ⟨⟨.bin .lss 3 .num (.slot 18) (.slot 19), some 20, none⟩, []⟩,
  ⟨⟨.mv (.slot 20), some 21, none⟩, []⟩,
  ⟨⟨.mv (.slot 0), some 22, some (21, true)⟩, []⟩,
  ⟨⟨.mv (.slot 3), some 23, some (21, true)⟩, []⟩,
  ⟨⟨.mv (.slot 9), some 24, some (21, true)⟩, []⟩,
  ⟨⟨.bin .add 3 .num (.slot 23) (.slot 24), some 25, some (21, true)⟩, []⟩,
  ⟨⟨.iaddr 1 (.slot 22) (.slot 25), some 26, some (21, true)⟩, []⟩,
  ⟨⟨.load false 1 (.slot 26), some 27, some (21, true)⟩, []⟩,
  ⟨⟨.mv (.slot 0), some 28, some (21, true)⟩, []⟩,
  ⟨⟨.mv (.slot 3), some 29, some (21, true)⟩, []⟩,
  ⟨⟨.mv (.slot 9), some 30, some (21, true)⟩, []⟩,
  ⟨⟨.bin .add 3 .num (.slot 29) (.slot 30), some 31, some (21, true)⟩, []⟩,
  ⟨⟨.bin .add 3 .num (.slot 31) (.const (.int .i64 (.ofNat 1))), some 32, some (21, true)⟩, []⟩,
  ⟨⟨.iaddr 1 (.slot 28) (.slot 32), some 33, some (21, true)⟩, []⟩,
  ⟨⟨.load false 1 (.slot 33), some 34, some (21, true)⟩, []⟩,
  ⟨⟨.call (.const (.func 84 [] [])) [(.slot 27), (.slot 34)], some 35, some (21, true)⟩, []⟩,
  ⟨⟨.pick (.slot 21) (.slot 35) (.const (.bool false)), some 36, none⟩, []⟩]
def r93_4 : List XLine := [⟨⟨.mv (.slot 9), some 37, none⟩, []⟩,
  ⟨⟨.bin .add 3 .num (.slot 37) (.const (.int .i64 (.ofNat 1))), some 38, none⟩, []⟩,
  ⟨⟨.mv (.slot 38), some 9, none⟩, []⟩]
def r93_5 : List XLine := [⟨⟨.mv (.slot 0), some 39, none⟩, []⟩,
  ⟨⟨.mv (.slot 3), some 40, none⟩, []⟩,
  ⟨⟨.mv (.slot 8), some 41, none⟩, []⟩,
  ⟨⟨.bin .add 3 .num (.slot 40) (.slot 41), some 42, none⟩, []⟩,
  ⟨⟨.iaddr 1 (.slot 39) (.slot 42), some 43, none⟩, []⟩,
  ⟨⟨.load false 1 (.slot 43), some 44, none⟩, []⟩,
  ⟨⟨.mv (.slot 0), some 45, none⟩, []⟩,
  ⟨⟨.mv (.slot 3), some 46, none⟩, []⟩,
  ⟨⟨.mv (.slot 9), some 47, none⟩, []⟩,
  ⟨⟨.bin .add 3 .num (.slot 46) (.slot 47), some 48, none⟩, []⟩,
  ⟨⟨.iaddr 1 (.slot 45) (.slot 48), some 49, none⟩, []⟩,
  ⟨⟨.load false 1 (.slot 49), some 50, none⟩, []⟩,
  ⟨⟨.call (.const (.func 84 [] [])) [(.slot 44), (.slot 50)], some 51, none⟩, []⟩,
  ⟨⟨.un .not (.slot 51), some 52, none⟩, []⟩]
def r93_6 : List XLine := [⟨⟨.mv (.slot 0), some 53, none⟩, []⟩,
  ⟨⟨.mv (.slot 3), some 54, none⟩, []⟩,
  ⟨⟨.mv (.slot 8), some 55, none⟩, []⟩,
  ⟨⟨.bin .add 3 .num (.slot 54) (.slot 55), some 56, none⟩, []⟩,
  ⟨⟨.mv (.slot 0), some 57, none⟩, []⟩,
  ⟨⟨.mv (.slot 3), some 58, none⟩, []⟩,
  ⟨⟨.mv (.slot 9), some 59, none⟩, []⟩,
  ⟨⟨.bin .add 3 .num (.slot 58) (.slot 59), some 60, none⟩, []⟩,
  ⟨⟨.mv (.slot 0), some 61, none⟩, []⟩,
  ⟨⟨.mv (.slot 3), some 62, none⟩, []⟩,
  ⟨⟨.mv (.slot 9), some 63, none⟩, []⟩,
  ⟨⟨.bin .add 3 .num (.slot 62) (.slot 63), some 64, none⟩, []⟩,
  ⟨⟨.iaddr 1 (.slot 61) (.slot 64), some 65, none⟩, []⟩,
  ⟨⟨.load false 1 (.slot 65), some 66, none⟩, []⟩,
  ⟨⟨.mv (.slot 0), some 67, none⟩, []⟩,
  ⟨⟨.mv (.slot 3), some 68, none⟩, []⟩,
  ⟨⟨.mv (.slot 8), some 69, none⟩, []⟩,
  ⟨⟨.bin .add 3 .num (.slot 68) (.slot 69), some 70, none⟩, []⟩,
  ⟨⟨.iaddr 1 (.slot 67) (.slot 70), some 71, none⟩, []⟩,
  ⟨⟨.load false 1 (.slot 71), some 72, none⟩, []⟩,
  ⟨⟨.iaddr 1 (.slot 53) (.slot 56), some 73, none⟩, []⟩,
  ⟨⟨.store 1 (.slot 73) (.slot 66), none, none⟩, []⟩,
  ⟨⟨.iaddr 1 (.slot 57) (.slot 60), some 74, none⟩, []⟩,
  ⟨⟨.store 1 (.slot 74) (.slot 72), none, none⟩, []⟩]
def r93_7 : List XLine := [⟨⟨.mv (.slot 9), some 75, none⟩, []⟩,
  ⟨⟨.mv (.slot 75), some 8, none⟩, []⟩]
def xf93 : XFunc := ⟨(.seq (.region false r93_0)
  (.block 0 (.loop (.block 1 (.seq (.region false r93_1)
  (.seq (.seq (.region false r93_2)
  (.cond (.slot 16)
  (.exit 0)
  .skip))
  (.seq (.seq (.region true r93_3)
  (.cond (.slot 36)
  (.region false r93_4)
  .skip))
  (.seq (.seq (.region true r93_5)
  (.cond (.slot 52)
  .ret
  .skip))
  (.seq (.region true r93_6)
  (.region false r93_7)))))))))),
  []⟩
theorem xf93_ok : compFunc Try.prog Try.f93 = some xf93 := by kernel_rfl
/- slices.medianAdjacentOrdered[int64] -/
def r94_0 : List XLine := [⟨⟨.mv (.const (.int .i64 (.ofNat 0))), some 6, none⟩, []⟩]
def r94_1 : List XLine := [⟨⟨.mv (.slot 0), some 7, none⟩, []⟩,
  ⟨⟨.mv (.slot 1), some 8, none⟩, []⟩,
  ⟨⟨.bin .sub 3 .num (.slot 8) (.const (.int .i64 (.ofNat 1))), some 9, none⟩, []⟩,
  ⟨⟨.mv (.slot 1), some 10, none⟩, []⟩,
  ⟨⟨.mv (.slot 1), some 11, none⟩, []⟩,
  ⟨⟨.bin .add 3 .num (.slot 11) (.const (.int .i64 (.ofNat 1))), some 12, none⟩, []⟩,
  ⟨⟨.mv (.slot 2), some 13, none⟩, []⟩,
  ⟨⟨.call (.const (.func 95 [] [])) [(.slot 7), (.slot 9), (.slot 10), (.slot 12), (.slot 13)], some 14, none⟩, []⟩,
  ⟨⟨.mv (.slot 14), some 6, none⟩, []⟩]
def xf94 : XFunc := ⟨(.seq (.region false r94_0)
  (.seq (.region false r94_1)
  .ret)),
  [.tmp 6]⟩
theorem xf94_ok : compFunc Try.prog Try.f94 = some xf94 := by kernel_rfl
/- slices.medianOrdered[int64] -/
def r95_0 : List XLine := [⟨⟨.mv (.const (.int .i64 (.ofNat 0))), some 10, none⟩, []⟩]
def r95_1 : List XLine := [⟨⟨.mv (.slot 0), some 12, none⟩, []⟩,
  ⟨⟨.mv (.slot 1), some 13, none⟩, []⟩,
  ⟨⟨.mv (.slot 2), some 14, none⟩, []⟩,
  ⟨⟨.mv (.slot 4), some 15, none⟩, []⟩,
  ⟨⟨.call (.const (.func 98 [] [])) [(.slot 12), (.slot 13), (.slot 14), (.slot 15)], some 16, none⟩, []⟩,
  ⟨⟨.mv (.slot 16), some 11, none⟩, []⟩,
  ⟨⟨.extract (.slot 11) 0, some 17, none⟩, []⟩,
  ⟨⟨.extract (.slot 11) 1, some 18, none⟩, []⟩,
  ⟨⟨.mv (.slot 17), some 1, none⟩, []⟩,
  ⟨⟨.mv (.slot 18), some 2, none⟩, []⟩]
def r95_2 : List XLine := [⟨⟨.mv (.slot 0), some 20, none⟩, []⟩,
  ⟨⟨.mv (.slot 2), some 21, none⟩, []⟩,
  ⟨⟨.mv (.slot 3), some 22, none⟩, []⟩,
  ⟨⟨.mv (.slot 4), some 23, none⟩, []⟩,
  ⟨⟨.call (.const (.func 98 [] [])) [(.slot 20), (.slot 21), (.slot 22), (.slot 23)], some 24, none⟩, []⟩,
  ⟨⟨.mv (.slot 24), some 19, none⟩, []⟩,
  ⟨⟨.extract (.slot 19) 0, some 25, none⟩, []⟩,
  ⟨⟨.extract (.slot 19) 1, some 26, none⟩, []⟩,
  ⟨⟨.mv (.slot 25), some 2, none⟩, []⟩,
  ⟨⟨.mv (.slot 26), some 3, none⟩, []⟩]
def r95_3 : List XLine := [⟨⟨.mv (.slot 0), some 28, none⟩, []⟩,
  ⟨⟨.mv (.slot 1), some 29, none⟩, []⟩,
  ⟨⟨.mv (.slot 2), some 30, none⟩, []⟩,
  ⟨⟨.mv (.slot 4), some 31, none⟩, []⟩,
  ⟨⟨.call (.const (.func 98 [] [])) [(.slot 28), (.slot 29), (.slot 30), (.slot 31)], some 32, none⟩, []⟩,
  ⟨⟨.mv (.slot 32), some 27, none⟩, []⟩,
  ⟨⟨.extract (.slot 27) 0, some 33, none⟩, []⟩,
  ⟨⟨.extract (.slot 27) 1, some 34, none⟩, []⟩,
  ⟨⟨.mv (.slot 33), some 1, none⟩, []⟩,
  ⟨⟨.mv (.slot 34), some 2, none⟩, []⟩]
def r95_4 : List XLine := [⟨⟨.mv (.slot 2), some 35, none⟩, []⟩,
  ⟨⟨.mv (.slot 35), some 10, none⟩, []⟩]
def xf95 : XFunc := ⟨(.seq (.region false r95_0)
  (.seq (.region false r95_1)
  (.seq (.region false r95_2)
  (.seq (.region false r95_3)
  (.seq (.region false r95_4)
  .ret))))),
  [.tmp 10]⟩
theorem xf95_ok : compFunc Try.prog Try.f95 = some xf95 := by kernel_rfl
/- cmp.isNaN[int64] -/
def r96_0 : List XLine := [⟨⟨.mv (.const (.bool false)), some 2, none⟩, []⟩]
def r96_1 : List XLine := [⟨⟨.mv (.slot 0), some 3, none⟩, []⟩,
  ⟨⟨.mv (.slot 0), some 4, none⟩, []⟩,
  ⟨⟨.bin .neq 2 .num (.slot 3) (.slot 4), some 5, none⟩, []⟩,
  ⟨⟨.mv (.slot 5), some 2, none⟩, []⟩]
def xf96 : XFunc := ⟨(.seq (.region false r96_0)
  (.seq (.region false r96_1)
  .ret)),
  [.tmp 2]⟩
theorem xf96_ok : compFunc Try.prog Try.f96 = some xf96 := by kernel_rfl
/- slices.order2CmpFunc[threshing/api.Lit] -/
def r97_0 : List XLine := [⟨⟨.mv (.const (.int .i64 (.ofNat 0))), some 10, none⟩, []⟩,
  ⟨⟨.mv (.const (.int .i64 (.ofNat 0))), some 11, none⟩, []⟩]
def r97_1 : List XLine := [⟨⟨.mv (.slot 4), some 12, none⟩, []⟩,
  ⟨⟨.mv (.slot 0), some 13, none⟩, []⟩,
  ⟨⟨.mv (.slot 2), some 14, none⟩, []⟩,
  ⟨⟨.iaddr 1 (.slot 13) (.slot 14), some 15, none⟩, []⟩,
  ⟨⟨.load false 1 (.slot 15), some 16, none⟩, []⟩,
  ⟨⟨.mv (.slot 0), some 17, none⟩, []⟩,
  ⟨⟨.mv (.slot 1), some 18, none⟩, []⟩,
  ⟨⟨.iaddr 1 (.slot 17) (.slot 18), some 19, none⟩, []⟩,
  ⟨⟨.load false 1 (.slot 19), some 20, none⟩, []⟩,
  ⟨⟨.call (.slot 12) [(.slot 16), (.slot 20)], some 21, none⟩, []⟩,
  ⟨⟨.bin .lss 3 .num (.slot 21) (.const (.int .i64 (.ofNat 0))), some 22, none⟩, []⟩]
def r97_2 : List XLine := [⟨⟨.mv (.slot 3), some 23, none⟩, []⟩,
  ⟨⟨.nilCheck (.slot 23), some 24, none⟩, []⟩,
  ⟨⟨.load false 1 (.slot 24), some 25, none⟩, []⟩,
  ⟨⟨.bin .add 3 .num (.slot 25) (.const (.int .i64 (.ofNat 1))), some 26, none⟩, []⟩,
  ⟨⟨.nilCheck (.slot 23), some 27, none⟩, []⟩,
  ⟨⟨.store 1 (.slot 27) (.slot 26), none, none⟩, []⟩]
def r97_3 : List XLine := [⟨⟨.mv (.slot 2), some 28, none⟩, []⟩,
  ⟨⟨.mv (.slot 1), some 29, none⟩, []⟩,
  ⟨⟨.mv (.slot 28), some 10, none⟩, []⟩,
  ⟨⟨.mv (.slot 29), some 11, none⟩, []⟩]
def r97_4 : List XLine := [⟨⟨.mv (.slot 1), some 30, none⟩, []⟩,
  ⟨⟨.mv (.slot 2), some 31, none⟩, []⟩,
  ⟨⟨.mv (.slot 30), some 10, none⟩, []⟩,
  ⟨⟨.mv (.slot 31), some 11, none⟩, []⟩]
def xf97 : XFunc := ⟨(.seq (.region false r97_0)
  (.seq (.seq (.region true r97_1)
  (.cond (.slot 22)
  (.seq (.region false r97_2)
  (.seq (.region false r97_3)
  .ret))
  .skip))
  (.seq (.region false r97_4)
  .ret))),
  [.tmp 10, .tmp 11]⟩
theorem xf97_ok : compFunc Try.prog Try.f97 = some xf97 := by kernel_rfl
/- slices.order2Ordered[int64] -/
def r98_0 : List XLine := [⟨⟨.mv (.const (.int .i64 (.ofNat 0))), some 8, none⟩, []⟩,
  ⟨⟨.mv (.const (.int .i64 (.ofNat 0))), some 9, none⟩, []⟩]
def r98_1 : List XLine := [⟨⟨.mv (.slot 0), some 10, none⟩, []⟩,
  ⟨⟨.mv (.slot 2), some 11, none⟩, []⟩,
  ⟨⟨.iaddr 1 (.slot 10) (.slot 11), some 12, none⟩, []⟩,
  ⟨⟨.load false 1 (.slot 12), some 13, none⟩, []⟩,
  ⟨⟨.mv (.slot 0), some 14, none⟩, []⟩,
  ⟨⟨.mv (.slot 1), some 15, none⟩, []⟩,
  ⟨⟨.iaddr 1 (.slot 14) (.slot 15), some 16, none⟩, []⟩,
  ⟨⟨.load false 1 (.slot 16), some 17, none⟩, []⟩,
  ⟨⟨.call (.const (.func 84 [] [])) [(.slot 13), (.slot 17)], some 18, none⟩, []⟩]
def r98_2 : List XLine := [⟨⟨.mv (.slot 3), some 19, none⟩, []⟩,
  ⟨⟨.nilCheck (.slot 19), some 20, none⟩, []⟩,
  ⟨⟨.load false 1 (.slot 20), some 21, none⟩, []⟩,
  ⟨⟨.bin .add 3 .num (.slot 21) (.const (.int .i64 (.ofNat 1))), some 22, none⟩, []⟩,
  ⟨⟨.nilCheck (.slot 19), some 23, none⟩, []⟩,
  ⟨⟨.store 1 (.slot 23) (.slot 22), none, none⟩, []⟩]
def r98_3 : List XLine := [⟨⟨.mv (.slot 2), some 24, none⟩, []⟩,
  ⟨⟨.mv (.slot 1), some 25, none⟩, []⟩,
  ⟨⟨.mv (.slot 24), some 8, none⟩, []⟩,
  ⟨⟨.mv (.slot 25), some 9, none⟩, []⟩]
def r98_4 : List XLine := [⟨⟨.mv (.slot 1), some 26, none⟩, []⟩,
  ⟨⟨.mv (.slot 2), some 27, none⟩, []⟩,
  ⟨⟨.mv (.slot 26), some 8, none⟩, []⟩,
  ⟨⟨.mv (.slot 27), some 9, none⟩, []⟩]
def xf98 : XFunc := ⟨(.seq (.region false r98_0)
  (.seq (.seq (.region true r98_1)
  (.cond (.slot 18)
  (.seq (.region false r98_2)
  (.seq (.region false r98_3)
  .ret))
  .skip))
  (.seq (.region false r98_4)
  .ret))),
  [.tmp 8, .tmp 9]⟩
theorem xf98_ok : compFunc Try.prog Try.f98 = some xf98 := by kernel_rfl
end Go.Proofs.Ytaljkapnfkbdbaa

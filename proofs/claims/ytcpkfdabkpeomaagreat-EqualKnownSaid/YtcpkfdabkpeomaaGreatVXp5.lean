/- The functions of the program in X's code, printed by a program of ours; each is what the program's own is turned to. -/
import Derived.Test.YtcpkfdabkpeomaaGreatProg
import Derived.Test.YtcpkfdabkpeomaaGreatW0
import Derived.KernelRfl
namespace Go.Proofs.YtcpkfdabkpeomaaGreat
open Go.Xr
/- slices.partitionCmpFunc[threshing/api.Lit] -/
def r105_0 : List XLine := [⟨⟨.mv (.const (.int .i64 (.ofNat 0))), some 10, none⟩, []⟩,
  ⟨⟨.mv (.const (.bool false)), some 11, none⟩, []⟩]
def r105_1 : List XLine := [⟨⟨.mv (.slot 0), some 14, none⟩, []⟩,
  ⟨⟨.mv (.slot 1), some 15, none⟩, []⟩,
  ⟨⟨.mv (.slot 0), some 16, none⟩, []⟩,
  ⟨⟨.mv (.slot 3), some 17, none⟩, []⟩,
  ⟨⟨.mv (.slot 0), some 18, none⟩, []⟩,
  ⟨⟨.mv (.slot 3), some 19, none⟩, []⟩,
  ⟨⟨.iaddr 1 (.slot 18) (.slot 19), some 20, none⟩, []⟩,
  ⟨⟨.load false 1 (.slot 20), some 21, none⟩, []⟩,
  ⟨⟨.mv (.slot 0), some 22, none⟩, []⟩,
  ⟨⟨.mv (.slot 1), some 23, none⟩, []⟩,
  ⟨⟨.iaddr 1 (.slot 22) (.slot 23), some 24, none⟩, []⟩,
  ⟨⟨.load false 1 (.slot 24), some 25, none⟩, []⟩,
  ⟨⟨.iaddr 1 (.slot 14) (.slot 15), some 26, none⟩, []⟩,
  ⟨⟨.store 1 (.slot 26) (.slot 21), none, none⟩, []⟩,
  ⟨⟨.iaddr 1 (.slot 16) (.slot 17), some 27, none⟩, []⟩,
  ⟨⟨.store 1 (.slot 27) (.slot 25), none, none⟩, []⟩]
def r105_2 : List XLine := [⟨⟨.mv (.slot 1), some 28, none⟩, []⟩,
  ⟨⟨.bin .add 3 .num (.slot 28) (.const (.int .i64 (.ofNat 1))), some 29, none⟩, []⟩,
  ⟨⟨.mv (.slot 2), some 30, none⟩, []⟩,
  ⟨⟨.bin .sub 3 .num (.slot 30) (.const (.int .i64 (.ofNat 1))), some 31, none⟩, []⟩,
  ⟨⟨.mv (.slot 29), some 12, none⟩, []⟩,
  ⟨⟨.mv (.slot 31), some 13, none⟩, []⟩]
def r105_3 : List XLine := [⟨⟨.mv (.slot 12), some 32, none⟩, []⟩,
  ⟨⟨.mv (.slot 13), some 33, none⟩, []⟩,
  ⟨⟨.bin .leq 3 .num (.slot 32) (.slot 33), some 34, none⟩, []⟩,
  ⟨⟨.mv (.slot 34), some 35, none⟩, []⟩,
  ⟨⟨.mv (.slot 4), some 36, some (35, true)⟩, []⟩,
  ⟨⟨.mv (.slot 0), some 37, some (35, true)⟩, []⟩,
  ⟨⟨.mv (.slot 12), some 38, some (35, true)⟩, []⟩,
  ⟨⟨.iaddr 1 (.slot 37) (.slot 38), some 39, some (35, true)⟩, []⟩,
  ⟨⟨.load false 1 (.slot 39), some 40, some (35, true)⟩, []⟩,
  ⟨⟨.mv (.slot 0), some 41, some (35, true)⟩, []⟩,
  ⟨⟨.mv (.slot 1), some 42, some (35, true)⟩, []⟩,
  ⟨⟨.iaddr 1 (.slot 41) (.slot 42), some 43, some (35, true)⟩, []⟩,
  ⟨⟨.load false 1 (.slot 43), some 44, some (35, true)⟩, []⟩,
  ⟨⟨.call (.slot 36) [(.slot 40), (.slot 44)], some 45, some (35, true)⟩, []⟩,
  ⟨⟨.bin .lss 3 .num (.slot 45) (.const (.int .i64 (.ofNat 0))), some 46, some (35, true)⟩, []⟩,
  ⟨⟨.pick (.slot 35) (.slot 46) (.const (.bool false)), some 47, none⟩, []⟩]
def r105_4 : List XLine := [⟨⟨.mv (.slot 12), some 48, none⟩, []⟩,
  ⟨⟨.bin .add 3 .num (.slot 48) (.const (.int .i64 (.ofNat 1))), some 49, none⟩, []⟩,
  ⟨⟨.mv (.slot 49), some 12, none⟩, []⟩]
def r105_5 : List XLine := [⟨⟨.mv (.slot 12), some 50, none⟩, []⟩,
  ⟨⟨.mv (.slot 13), some 51, none⟩, []⟩,
  ⟨⟨.bin .leq 3 .num (.slot 50) (.slot 51), some 52, none⟩, []⟩,
  ⟨⟨.mv (.slot 52), some 53, none⟩, []⟩,
  ⟨⟨.mv (.slot 4), some 54, some (53, true)⟩, []⟩,
  ⟨⟨.mv (.slot 0), some 55, some (53, true)⟩, []⟩,
  ⟨⟨.mv (.slot 13), some 56, some (53, true)⟩, []⟩,
  ⟨⟨.iaddr 1 (.slot 55) (.slot 56), some 57, some (53, true)⟩, []⟩,
  ⟨⟨.load false 1 (.slot 57), some 58, some (53, true)⟩, []⟩,
  ⟨⟨.mv (.slot 0), some 59, some (53, true)⟩, []⟩,
  ⟨⟨.mv (.slot 1), some 60, some (53, true)⟩, []⟩,
  ⟨⟨.iaddr 1 (.slot 59) (.slot 60), some 61, some (53, true)⟩, []⟩,
  ⟨⟨.load false 1 (.slot 61), some 62, some (53, true)⟩, []⟩,
  ⟨⟨.call (.slot 54) [(.slot 58), (.slot 62)], some 63, some (53, true)⟩, []⟩,
  ⟨⟨.bin .lss 3 .num (.slot 63) (.const (.int .i64 (.ofNat 0))), some 64, some (53, true)⟩, []⟩,
  ⟨⟨.un .not (.slot 64), some 65, some (53, true)⟩, []⟩,
  ⟨⟨.pick (.slot 53) (.slot 65) (.const (.bool false)), some 66, none⟩, []⟩]
def r105_6 : List XLine := [⟨⟨.mv (.slot 13), some 67, none⟩, []⟩,
  ⟨⟨.bin .sub 3 .num (.slot 67) (.const (.int .i64 (.ofNat 1))), some 68, none⟩, []⟩,
  ⟨⟨.mv (.slot 68), some 13, none⟩, []⟩]
def r105_7 : List XLine := [⟨⟨.mv (.slot 12), some 69, none⟩, []⟩,
  ⟨⟨.mv (.slot 13), some 70, none⟩, []⟩,
  ⟨⟨.bin .gtr 3 .num (.slot 69) (.slot 70), some 71, none⟩, []⟩]
def r105_8 : List XLine := [⟨⟨.mv (.slot 0), some 72, none⟩, []⟩,
  ⟨⟨.mv (.slot 13), some 73, none⟩, []⟩,
  ⟨⟨.mv (.slot 0), some 74, none⟩, []⟩,
  ⟨⟨.mv (.slot 1), some 75, none⟩, []⟩,
  ⟨⟨.mv (.slot 0), some 76, none⟩, []⟩,
  ⟨⟨.mv (.slot 1), some 77, none⟩, []⟩,
  ⟨⟨.iaddr 1 (.slot 76) (.slot 77), some 78, none⟩, []⟩,
  ⟨⟨.load false 1 (.slot 78), some 79, none⟩, []⟩,
  ⟨⟨.mv (.slot 0), some 80, none⟩, []⟩,
  ⟨⟨.mv (.slot 13), some 81, none⟩, []⟩,
  ⟨⟨.iaddr 1 (.slot 80) (.slot 81), some 82, none⟩, []⟩,
  ⟨⟨.load false 1 (.slot 82), some 83, none⟩, []⟩,
  ⟨⟨.iaddr 1 (.slot 72) (.slot 73), some 84, none⟩, []⟩,
  ⟨⟨.store 1 (.slot 84) (.slot 79), none, none⟩, []⟩,
  ⟨⟨.iaddr 1 (.slot 74) (.slot 75), some 85, none⟩, []⟩,
  ⟨⟨.store 1 (.slot 85) (.slot 83), none, none⟩, []⟩]
def r105_9 : List XLine := [⟨⟨.mv (.slot 13), some 86, none⟩, []⟩,
  ⟨⟨.mv (.slot 86), some 10, none⟩, []⟩,
  ⟨⟨.mv (.const (.bool true)), some 11, none⟩, []⟩]
def r105_10 : List XLine := [⟨⟨.mv (.slot 0), some 87, none⟩, []⟩,
  ⟨⟨.mv (.slot 12), some 88, none⟩, []⟩,
  ⟨⟨.mv (.slot 0), some 89, none⟩, []⟩,
  ⟨⟨.mv (.slot 13), some 90, none⟩, []⟩,
  ⟨⟨.mv (.slot 0), some 91, none⟩, []⟩,
  ⟨⟨.mv (.slot 13), some 92, none⟩, []⟩,
  ⟨⟨.iaddr 1 (.slot 91) (.slot 92), some 93, none⟩, []⟩,
  ⟨⟨.load false 1 (.slot 93), some 94, none⟩, []⟩,
  ⟨⟨.mv (.slot 0), some 95, none⟩, []⟩,
  ⟨⟨.mv (.slot 12), some 96, none⟩, []⟩,
  ⟨⟨.iaddr 1 (.slot 95) (.slot 96), some 97, none⟩, []⟩,
  ⟨⟨.load false 1 (.slot 97), some 98, none⟩, []⟩,
  ⟨⟨.iaddr 1 (.slot 87) (.slot 88), some 99, none⟩, []⟩,
  ⟨⟨.store 1 (.slot 99) (.slot 94), none, none⟩, []⟩,
  ⟨⟨.iaddr 1 (.slot 89) (.slot 90), some 100, none⟩, []⟩,
  ⟨⟨.store 1 (.slot 100) (.slot 98), none, none⟩, []⟩]
def r105_11 : List XLine := [⟨⟨.mv (.slot 12), some 101, none⟩, []⟩,
  ⟨⟨.bin .add 3 .num (.slot 101) (.const (.int .i64 (.ofNat 1))), some 102, none⟩, []⟩,
  ⟨⟨.mv (.slot 102), some 12, none⟩, []⟩]
def r105_12 : List XLine := [⟨⟨.mv (.slot 13), some 103, none⟩, []⟩,
  ⟨⟨.bin .sub 3 .num (.slot 103) (.const (.int .i64 (.ofNat 1))), some 104, none⟩, []⟩,
  ⟨⟨.mv (.slot 104), some 13, none⟩, []⟩]
def r105_13 : List XLine := [⟨⟨.mv (.slot 12), some 105, none⟩, []⟩,
  ⟨⟨.mv (.slot 13), some 106, none⟩, []⟩,
  ⟨⟨.bin .leq 3 .num (.slot 105) (.slot 106), some 107, none⟩, []⟩,
  ⟨⟨.mv (.slot 107), some 108, none⟩, []⟩,
  ⟨⟨.mv (.slot 4), some 109, some (108, true)⟩, []⟩,
  ⟨⟨.mv (.slot 0), some 110, some (108, true)⟩, []⟩,
  ⟨⟨.mv (.slot 12), some 111, some (108, true)⟩, []⟩,
  ⟨⟨.iaddr 1 (.slot 110) (.slot 111), some 112, some (108, true)⟩, []⟩,
  ⟨⟨.load false 1 (.slot 112), some 113, some (108, true)⟩, []⟩,
  ⟨⟨.mv (.slot 0), some 114, some (108, true)⟩, []⟩,
  ⟨⟨.mv (.slot 1), some 115, some (108, true)⟩, []⟩,
  ⟨⟨.iaddr 1 (.slot 114) (.slot 115), some 116, some (108, true)⟩, []⟩,
  ⟨⟨.load false 1 (.slot 116), some 117, some (108, true)⟩, []⟩,
  ⟨⟨.call (.slot 109) [(.slot 113), (.slot 117)], some 118, some (108, true)⟩, []⟩,
  ⟨⟨.bin .lss 3 .num (.slot 118) (.const (.int .i64 (.ofNat 0))), some 119, some (108, true)⟩, []⟩,
  ⟨⟨.pick (.slot 108) (.slot 119) (.const (.bool false)), some 120, none⟩, []⟩]
def r105_14 : List XLine := [⟨⟨.mv (.slot 12), some 121, none⟩, []⟩,
  ⟨⟨.bin .add 3 .num (.slot 121) (.const (.int .i64 (.ofNat 1))), some 122, none⟩, []⟩,
  ⟨⟨.mv (.slot 122), some 12, none⟩, []⟩]
def r105_15 : List XLine := [⟨⟨.mv (.slot 12), some 123, none⟩, []⟩,
  ⟨⟨.mv (.slot 13), some 124, none⟩, []⟩,
  ⟨⟨.bin .leq 3 .num (.slot 123) (.slot 124), some 125, none⟩, []⟩,
  ⟨⟨.mv (.slot 125), some 126, none⟩, []⟩,
  ⟨⟨.mv (.slot 4), some 127, some (126, true)⟩, []⟩,
  ⟨⟨.mv (.slot 0), some 128, some (126, true)⟩, []⟩,
  ⟨⟨.mv (.slot 13), some 129, some (126, true)⟩, []⟩,
  ⟨⟨.iaddr 1 (.slot 128) (.slot 129), some 130, some (126, true)⟩, []⟩,
  ⟨⟨.load false 1 (.slot 130), some 131, some (126, true)⟩, []⟩,
  ⟨⟨.mv (.slot 0), some 132, some (126, true)⟩, []⟩,
  ⟨⟨.mv (.slot 1), some 133, some (126, true)⟩, []⟩,
  ⟨⟨.iaddr 1 (.slot 132) (.slot 133), some 134, some (126, true)⟩, []⟩,
  ⟨⟨.load false 1 (.slot 134), some 135, some (126, true)⟩, []⟩,
  ⟨⟨.call (.slot 127) [(.slot 131), (.slot 135)], some 136, some (126, true)⟩, []⟩,
  ⟨⟨.bin .lss 3 .num (.slot 136) (.const (.int .i64 (.ofNat 0))), some 137, some (126, true)⟩, []⟩,
  ⟨⟨.un .not (.slot 137), some 138, some (126, true)⟩, []⟩,
  ⟨⟨.pick (.slot 126) (.slot 138) (.const (.bool false)), some 139, none⟩, []⟩]
def r105_16 : List XLine := [⟨⟨.mv (.slot 13), some 140, none⟩, []⟩,
  ⟨⟨.bin .sub 3 .num (.slot 140) (.const (.int .i64 (.ofNat 1))), some 141, none⟩, []⟩,
  ⟨⟨.mv (.slot 141), some 13, none⟩, []⟩]
def r105_17 : List XLine := [⟨⟨.mv (.slot 12), some 142, none⟩, []⟩,
  ⟨⟨.mv (.slot 13), some 143, none⟩, []⟩,
  ⟨⟨.bin .gtr 3 .num (.slot 142) (.slot 143), some 144, none⟩, []⟩]
def r105_18 : List XLine := [⟨⟨.mv (.slot 0), some 145, none⟩, []⟩,
  ⟨⟨.mv (.slot 12), some 146, none⟩, []⟩,
  ⟨⟨.mv (.slot 0), some 147, none⟩, []⟩,
  ⟨⟨.mv (.slot 13), some 148, none⟩, []⟩,
  ⟨⟨.mv (.slot 0), some 149, none⟩, []⟩,
  ⟨⟨.mv (.slot 13), some 150, none⟩, []⟩,
  ⟨⟨.iaddr 1 (.slot 149) (.slot 150), some 151, none⟩, []⟩,
  ⟨⟨.load false 1 (.slot 151), some 152, none⟩, []⟩,
  ⟨⟨.mv (.slot 0), some 153, none⟩, []⟩,
  ⟨⟨.mv (.slot 12), some 154, none⟩, []⟩,
  ⟨⟨.iaddr 1 (.slot 153) (.slot 154), some 155, none⟩, []⟩,
  ⟨⟨.load false 1 (.slot 155), some 156, none⟩, []⟩,
  ⟨⟨.iaddr 1 (.slot 145) (.slot 146), some 157, none⟩, []⟩,
  ⟨⟨.store 1 (.slot 157) (.slot 152), none, none⟩, []⟩,
  ⟨⟨.iaddr 1 (.slot 147) (.slot 148), some 158, none⟩, []⟩,
  ⟨⟨.store 1 (.slot 158) (.slot 156), none, none⟩, []⟩]
def r105_19 : List XLine := [⟨⟨.mv (.slot 12), some 159, none⟩, []⟩,
  ⟨⟨.bin .add 3 .num (.slot 159) (.const (.int .i64 (.ofNat 1))), some 160, none⟩, []⟩,
  ⟨⟨.mv (.slot 160), some 12, none⟩, []⟩]
def r105_20 : List XLine := [⟨⟨.mv (.slot 13), some 161, none⟩, []⟩,
  ⟨⟨.bin .sub 3 .num (.slot 161) (.const (.int .i64 (.ofNat 1))), some 162, none⟩, []⟩,
  ⟨⟨.mv (.slot 162), some 13, none⟩, []⟩]
def r105_21 : List XLine := [⟨⟨.mv (.slot 0), some 163, none⟩, []⟩,
  ⟨⟨.mv (.slot 13), some 164, none⟩, []⟩,
  ⟨⟨.mv (.slot 0), some 165, none⟩, []⟩,
  ⟨⟨.mv (.slot 1), some 166, none⟩, []⟩,
  ⟨⟨.mv (.slot 0), some 167, none⟩, []⟩,
  ⟨⟨.mv (.slot 1), some 168, none⟩, []⟩,
  ⟨⟨.iaddr 1 (.slot 167) (.slot 168), some 169, none⟩, []⟩,
  ⟨⟨.load false 1 (.slot 169), some 170, none⟩, []⟩,
  ⟨⟨.mv (.slot 0), some 171, none⟩, []⟩,
  ⟨⟨.mv (.slot 13), some 172, none⟩, []⟩,
  ⟨⟨.iaddr 1 (.slot 171) (.slot 172), some 173, none⟩, []⟩,
  ⟨⟨.load false 1 (.slot 173), some 174, none⟩, []⟩,
  ⟨⟨.iaddr 1 (.slot 163) (.slot 164), some 175, none⟩, []⟩,
  ⟨⟨.store 1 (.slot 175) (.slot 170), none, none⟩, []⟩,
  ⟨⟨.iaddr 1 (.slot 165) (.slot 166), some 176, none⟩, []⟩,
  ⟨⟨.store 1 (.slot 176) (.slot 174), none, none⟩, []⟩]
def r105_22 : List XLine := [⟨⟨.mv (.slot 13), some 177, none⟩, []⟩,
  ⟨⟨.mv (.slot 177), some 10, none⟩, []⟩,
  ⟨⟨.mv (.const (.bool false)), some 11, none⟩, []⟩]
def xf105 : XFunc := ⟨(.seq (.region false r105_0)
  (.seq (.region true r105_1)
  (.seq (.region false r105_2)
  (.seq (.block 0 (.loop (.seq (.seq (.region true r105_3)
  (.cond (.slot 47)
  .skip
  (.exit 0)))
  (.block 1 (.region false r105_4)))))
  (.seq (.block 2 (.loop (.seq (.seq (.region true r105_5)
  (.cond (.slot 66)
  .skip
  (.exit 2)))
  (.block 3 (.region false r105_6)))))
  (.seq (.seq (.region false r105_7)
  (.cond (.slot 71)
  (.seq (.region true r105_8)
  (.seq (.region false r105_9)
  .ret))
  .skip))
  (.seq (.region true r105_10)
  (.seq (.region false r105_11)
  (.seq (.region false r105_12)
  (.seq (.block 4 (.loop (.block 5 (.seq (.block 6 (.loop (.seq (.seq (.region true r105_13)
  (.cond (.slot 120)
  .skip
  (.exit 6)))
  (.block 7 (.region false r105_14)))))
  (.seq (.block 8 (.loop (.seq (.seq (.region true r105_15)
  (.cond (.slot 139)
  .skip
  (.exit 8)))
  (.block 9 (.region false r105_16)))))
  (.seq (.seq (.region false r105_17)
  (.cond (.slot 144)
  (.exit 4)
  .skip))
  (.seq (.region true r105_18)
  (.seq (.region false r105_19)
  (.region false r105_20)))))))))
  (.seq (.region true r105_21)
  (.seq (.region false r105_22)
  .ret)))))))))))),
  [.tmp 10, .tmp 11]⟩
theorem xf105_ok : compFunc Tryz.prog Tryz.f105 = some xf105 := by kernel_rfl
/- cmp.isNaN[int] -/
def r106_0 : List XLine := [⟨⟨.mv (.const (.bool false)), some 2, none⟩, []⟩]
def r106_1 : List XLine := [⟨⟨.mv (.slot 0), some 3, none⟩, []⟩,
  ⟨⟨.mv (.slot 0), some 4, none⟩, []⟩,
  ⟨⟨.bin .neq 3 .num (.slot 3) (.slot 4), some 5, none⟩, []⟩,
  ⟨⟨.mv (.slot 5), some 2, none⟩, []⟩]
def xf106 : XFunc := ⟨(.seq (.region false r106_0)
  (.seq (.region false r106_1)
  .ret)),
  [.tmp 2]⟩
theorem xf106_ok : compFunc Tryz.prog Tryz.f106 = some xf106 := by kernel_rfl
/- cmp.isNaN[threshing/api.Lit] -/
def r107_0 : List XLine := [⟨⟨.mv (.const (.bool false)), some 2, none⟩, []⟩]
def r107_1 : List XLine := [⟨⟨.mv (.slot 0), some 3, none⟩, []⟩,
  ⟨⟨.mv (.slot 0), some 4, none⟩, []⟩,
  ⟨⟨.bin .neq 24 .num (.slot 3) (.slot 4), some 5, none⟩, []⟩,
  ⟨⟨.mv (.slot 5), some 2, none⟩, []⟩]
def xf107 : XFunc := ⟨(.seq (.region false r107_0)
  (.seq (.region false r107_1)
  .ret)),
  [.tmp 2]⟩
theorem xf107_ok : compFunc Tryz.prog Tryz.f107 = some xf107 := by kernel_rfl
/- threshing/cnf.Subsumes$1 -/
def r108_0 : List XLine := [⟨⟨.mv (.const (.bool false)), some 3, none⟩, []⟩]
def r108_1 : List XLine := [⟨⟨.load false 1 (.slot 1), some 4, none⟩, []⟩,
  ⟨⟨.mv (.slot 0), some 5, none⟩, []⟩,
  ⟨⟨.call (.const (.func 76 [] [])) [(.slot 4), (.slot 5)], some 6, none⟩, []⟩,
  ⟨⟨.un .not (.slot 6), some 7, none⟩, []⟩,
  ⟨⟨.mv (.slot 7), some 3, none⟩, []⟩]
def xf108 : XFunc := ⟨(.seq (.region false r108_0)
  (.seq (.region false r108_1)
  .ret)),
  [.tmp 3]⟩
theorem xf108_ok : compFunc Tryz.prog Tryz.f108 = some xf108 := by kernel_rfl
/- slices.siftDownOrdered[int64] -/
def r109_0 : List XLine := [⟨⟨.mv (.slot 1), some 10, none⟩, []⟩,
  ⟨⟨.mv (.slot 10), some 8, none⟩, []⟩]
def r109_1 : List XLine := [⟨⟨.mv (.slot 8), some 11, none⟩, []⟩,
  ⟨⟨.bin .mul 3 .num (.const (.int .i64 (.ofNat 2))) (.slot 11), some 12, none⟩, []⟩,
  ⟨⟨.bin .add 3 .num (.slot 12) (.const (.int .i64 (.ofNat 1))), some 13, none⟩, []⟩,
  ⟨⟨.mv (.slot 13), some 9, none⟩, []⟩]
def r109_2 : List XLine := [⟨⟨.mv (.slot 9), some 14, none⟩, []⟩,
  ⟨⟨.mv (.slot 2), some 15, none⟩, []⟩,
  ⟨⟨.bin .geq 3 .num (.slot 14) (.slot 15), some 16, none⟩, []⟩]
def r109_3 : List XLine := [⟨⟨.mv (.slot 9), some 17, none⟩, []⟩,
  ⟨⟨.bin .add 3 .num (.slot 17) (.const (.int .i64 (.ofNat 1))), some 18, none⟩, []⟩,
  ⟨⟨.mv (.slot 2), some 19, none⟩, []⟩,
  ⟨⟨.bin .lss 3 .num (.slot 18) (.slot 19), some 20, none⟩, []⟩,
  ⟨⟨.mv (.slot 20), some 21, none⟩, []⟩,
  ⟨⟨.mv (.slot 0), some 22, some (21, true)⟩, []⟩,
  ⟨⟨.mv (.slot 3), some 23, some (21, true)⟩, []⟩,
  ⟨⟨.mv (.slot 9), some 24, some (21, true)⟩, []⟩,
  ⟨⟨.bin .add 3 .num (.slot 23) (.slot 24), some 25, some (21, true)⟩, []⟩,
  ⟨⟨.iaddr 1 (.slot 22) (.slot 25), some 26, some (21, true)⟩, []⟩,
  ⟨⟨.load false 1 (.slot 26), some 27, some (21, true)⟩, []⟩,
  ⟨⟨.mv (.slot 0), some 28, some (21, true)⟩, []⟩,
  ⟨⟨.mv (.slot 3), some 29, some (21, true)⟩, []⟩,
  ⟨⟨.mv (.slot 9), some 30, some (21, true)⟩, []⟩,
  ⟨⟨.bin .add 3 .num (.slot 29) (.slot 30), some 31, some (21, true)⟩, []⟩,
  ⟨⟨.bin .add 3 .num (.slot 31) (.const (.int .i64 (.ofNat 1))), some 32, some (21, true)⟩, []⟩,
  ⟨⟨.iaddr 1 (.slot 28) (.slot 32), some 33, some (21, true)⟩, []⟩,
  ⟨⟨.load false 1 (.slot 33), some 34, some (21, true)⟩, []⟩,
  ⟨⟨.call (.const (.func 91 [] [])) [(.slot 27), (.slot 34)], some 35, some (21, true)⟩, []⟩,
  ⟨⟨.pick (.slot 21) (.slot 35) (.const (.bool false)), some 36, none⟩, []⟩]
def r109_4 : List XLine := [⟨⟨.mv (.slot 9), some 37, none⟩, []⟩,
  ⟨⟨.bin .add 3 .num (.slot 37) (.const (.int .i64 (.ofNat 1))), some 38, none⟩, []⟩,
  ⟨⟨.mv (.slot 38), some 9, none⟩, []⟩]
def r109_5 : List XLine := [⟨⟨.mv (.slot 0), some 39, none⟩, []⟩,
  ⟨⟨.mv (.slot 3), some 40, none⟩, []⟩,
  ⟨⟨.mv (.slot 8), some 41, none⟩, []⟩,
  ⟨⟨.bin .add 3 .num (.slot 40) (.slot 41), some 42, none⟩, []⟩,
  ⟨⟨.iaddr 1 (.slot 39) (.slot 42), some 43, none⟩, []⟩,
  ⟨⟨.load false 1 (.slot 43), some 44, none⟩, []⟩,
  ⟨⟨.mv (.slot 0), some 45, none⟩, []⟩,
  ⟨⟨.mv (.slot 3), some 46, none⟩, []⟩,
  ⟨⟨.mv (.slot 9), some 47, none⟩, []⟩,
  ⟨⟨.bin .add 3 .num (.slot 46) (.slot 47), some 48, none⟩, []⟩,
  ⟨⟨.iaddr 1 (.slot 45) (.slot 48), some 49, none⟩, []⟩,
  ⟨⟨.load false 1 (.slot 49), some 50, none⟩, []⟩,
  ⟨⟨.call (.const (.func 91 [] [])) [(.slot 44), (.slot 50)], some 51, none⟩, []⟩,
  ⟨⟨.un .not (.slot 51), some 52, none⟩, []⟩]
def r109_6 : List XLine := [⟨⟨.mv (.slot 0), some 53, none⟩, []⟩,
  ⟨⟨.mv (.slot 3), some 54, none⟩, []⟩,
  ⟨⟨.mv (.slot 8), some 55, none⟩, []⟩,
  ⟨⟨.bin .add 3 .num (.slot 54) (.slot 55), some 56, none⟩, []⟩,
  ⟨⟨.mv (.slot 0), some 57, none⟩, []⟩,
  ⟨⟨.mv (.slot 3), some 58, none⟩, []⟩,
  ⟨⟨.mv (.slot 9), some 59, none⟩, []⟩,
  ⟨⟨.bin .add 3 .num (.slot 58) (.slot 59), some 60, none⟩, []⟩,
  ⟨⟨.mv (.slot 0), some 61, none⟩, []⟩,
  ⟨⟨.mv (.slot 3), some 62, none⟩, []⟩,
  ⟨⟨.mv (.slot 9), some 63, none⟩, []⟩,
  ⟨⟨.bin .add 3 .num (.slot 62) (.slot 63), some 64, none⟩, []⟩,
  ⟨⟨.iaddr 1 (.slot 61) (.slot 64), some 65, none⟩, []⟩,
  ⟨⟨.load false 1 (.slot 65), some 66, none⟩, []⟩,
  ⟨⟨.mv (.slot 0), some 67, none⟩, []⟩,
  ⟨⟨.mv (.slot 3), some 68, none⟩, []⟩,
  ⟨⟨.mv (.slot 8), some 69, none⟩, []⟩,
  ⟨⟨.bin .add 3 .num (.slot 68) (.slot 69), some 70, none⟩, []⟩,
  ⟨⟨.iaddr 1 (.slot 67) (.slot 70), some 71, none⟩, []⟩,
  ⟨⟨.load false 1 (.slot 71), some 72, none⟩, []⟩,
  ⟨⟨.iaddr 1 (.slot 53) (.slot 56), some 73, none⟩, []⟩,
  ⟨⟨.store 1 (.slot 73) (.slot 66), none, none⟩, []⟩,
  ⟨⟨.iaddr 1 (.slot 57) (.slot 60), some 74, none⟩, []⟩,
  ⟨⟨.store 1 (.slot 74) (.slot 72), none, none⟩, []⟩]
def r109_7 : List XLine := [⟨⟨.mv (.slot 9), some 75, none⟩, []⟩,
  ⟨⟨.mv (.slot 75), some 8, none⟩, []⟩]
def xf109 : XFunc := ⟨(.seq (.region false r109_0)
  (.block 0 (.loop (.block 1 (.seq (.region false r109_1)
  (.seq (.seq (.region false r109_2)
  (.cond (.slot 16)
  (.exit 0)
  .skip))
  (.seq (.seq (.region true r109_3)
  (.cond (.slot 36)
  (.region false r109_4)
  .skip))
  (.seq (.seq (.region true r109_5)
  (.cond (.slot 52)
  .ret
  .skip))
  (.seq (.region true r109_6)
  (.region false r109_7)))))))))),
  []⟩
theorem xf109_ok : compFunc Tryz.prog Tryz.f109 = some xf109 := by kernel_rfl
/- slices.nextPowerOfTwo -/
def r110_0 : List XLine := [⟨⟨.mv (.const (.int .u64 (.ofNat 0))), some 2, none⟩, []⟩]
def r110_1 : List XLine := [⟨⟨.mv (.slot 0), some 3, none⟩, []⟩,
  ⟨⟨.conv .u64 (.slot 3), some 4, none⟩, []⟩,
  ⟨⟨.call (.const (.func 73 [] [])) [(.slot 4)], some 5, none⟩, []⟩,
  ⟨⟨.bin .shl 138 .num (.const (.int .u64 (.ofNat 1))) (.slot 5), some 6, none⟩, []⟩,
  ⟨⟨.mv (.slot 6), some 2, none⟩, []⟩]
def xf110 : XFunc := ⟨(.seq (.region false r110_0)
  (.seq (.region false r110_1)
  .ret)),
  [.tmp 2]⟩
theorem xf110_ok : compFunc Tryz.prog Tryz.f110 = some xf110 := by kernel_rfl
/- (*slices.xorshift).Next -/
def r111_0 : List XLine := [⟨⟨.mv (.const (.int .u64 (.ofNat 0))), some 2, none⟩, []⟩]
def r111_1 : List XLine := [⟨⟨.mv (.slot 0), some 3, none⟩, []⟩,
  ⟨⟨.nilCheck (.slot 3), some 4, none⟩, []⟩,
  ⟨⟨.load false 1 (.slot 4), some 5, none⟩, []⟩,
  ⟨⟨.mv (.slot 0), some 6, none⟩, []⟩,
  ⟨⟨.nilCheck (.slot 6), some 7, none⟩, []⟩,
  ⟨⟨.load false 1 (.slot 7), some 8, none⟩, []⟩,
  ⟨⟨.bin .shl 170 .num (.slot 8) (.const (.int .u64 (.ofNat 13))), some 9, none⟩, []⟩,
  ⟨⟨.bin .xor 170 .num (.slot 5) (.slot 9), some 10, none⟩, []⟩,
  ⟨⟨.nilCheck (.slot 3), some 11, none⟩, []⟩,
  ⟨⟨.store 1 (.slot 11) (.slot 10), none, none⟩, []⟩]
def r111_2 : List XLine := [⟨⟨.mv (.slot 0), some 12, none⟩, []⟩,
  ⟨⟨.nilCheck (.slot 12), some 13, none⟩, []⟩,
  ⟨⟨.load false 1 (.slot 13), some 14, none⟩, []⟩,
  ⟨⟨.mv (.slot 0), some 15, none⟩, []⟩,
  ⟨⟨.nilCheck (.slot 15), some 16, none⟩, []⟩,
  ⟨⟨.load false 1 (.slot 16), some 17, none⟩, []⟩,
  ⟨⟨.bin .shr 170 .num (.slot 17) (.const (.int .u64 (.ofNat 7))), some 18, none⟩, []⟩,
  ⟨⟨.bin .xor 170 .num (.slot 14) (.slot 18), some 19, none⟩, []⟩,
  ⟨⟨.nilCheck (.slot 12), some 20, none⟩, []⟩,
  ⟨⟨.store 1 (.slot 20) (.slot 19), none, none⟩, []⟩]
def r111_3 : List XLine := [⟨⟨.mv (.slot 0), some 21, none⟩, []⟩,
  ⟨⟨.nilCheck (.slot 21), some 22, none⟩, []⟩,
  ⟨⟨.load false 1 (.slot 22), some 23, none⟩, []⟩,
  ⟨⟨.mv (.slot 0), some 24, none⟩, []⟩,
  ⟨⟨.nilCheck (.slot 24), some 25, none⟩, []⟩,
  ⟨⟨.load false 1 (.slot 25), some 26, none⟩, []⟩,
  ⟨⟨.bin .shl 170 .num (.slot 26) (.const (.int .u64 (.ofNat 17))), some 27, none⟩, []⟩,
  ⟨⟨.bin .xor 170 .num (.slot 23) (.slot 27), some 28, none⟩, []⟩,
  ⟨⟨.nilCheck (.slot 21), some 29, none⟩, []⟩,
  ⟨⟨.store 1 (.slot 29) (.slot 28), none, none⟩, []⟩]
def r111_4 : List XLine := [⟨⟨.mv (.slot 0), some 30, none⟩, []⟩,
  ⟨⟨.nilCheck (.slot 30), some 31, none⟩, []⟩,
  ⟨⟨.load false 1 (.slot 31), some 32, none⟩, []⟩,
  ⟨⟨.mv (.slot 32), some 2, none⟩, []⟩]
def xf111 : XFunc := ⟨(.seq (.region false r111_0)
  (.seq (.region true r111_1)
  (.seq (.region true r111_2)
  (.seq (.region true r111_3)
  (.seq (.region false r111_4)
  .ret))))),
  [.tmp 2]⟩
theorem xf111_ok : compFunc Tryz.prog Tryz.f111 = some xf111 := by kernel_rfl
/- slices.medianAdjacentOrdered[int64] -/
def r112_0 : List XLine := [⟨⟨.mv (.const (.int .i64 (.ofNat 0))), some 6, none⟩, []⟩]
def r112_1 : List XLine := [⟨⟨.mv (.slot 0), some 7, none⟩, []⟩,
  ⟨⟨.mv (.slot 1), some 8, none⟩, []⟩,
  ⟨⟨.bin .sub 3 .num (.slot 8) (.const (.int .i64 (.ofNat 1))), some 9, none⟩, []⟩,
  ⟨⟨.mv (.slot 1), some 10, none⟩, []⟩,
  ⟨⟨.mv (.slot 1), some 11, none⟩, []⟩,
  ⟨⟨.bin .add 3 .num (.slot 11) (.const (.int .i64 (.ofNat 1))), some 12, none⟩, []⟩,
  ⟨⟨.mv (.slot 2), some 13, none⟩, []⟩,
  ⟨⟨.call (.const (.func 113 [] [])) [(.slot 7), (.slot 9), (.slot 10), (.slot 12), (.slot 13)], some 14, none⟩, []⟩,
  ⟨⟨.mv (.slot 14), some 6, none⟩, []⟩]
def xf112 : XFunc := ⟨(.seq (.region false r112_0)
  (.seq (.region false r112_1)
  .ret)),
  [.tmp 6]⟩
theorem xf112_ok : compFunc Tryz.prog Tryz.f112 = some xf112 := by kernel_rfl
/- slices.medianOrdered[int64] -/
def r113_0 : List XLine := [⟨⟨.mv (.const (.int .i64 (.ofNat 0))), some 10, none⟩, []⟩]
def r113_1 : List XLine := [⟨⟨.mv (.slot 0), some 12, none⟩, []⟩,
  ⟨⟨.mv (.slot 1), some 13, none⟩, []⟩,
  ⟨⟨.mv (.slot 2), some 14, none⟩, []⟩,
  ⟨⟨.mv (.slot 4), some 15, none⟩, []⟩,
  ⟨⟨.call (.const (.func 118 [] [])) [(.slot 12), (.slot 13), (.slot 14), (.slot 15)], some 16, none⟩, []⟩,
  ⟨⟨.mv (.slot 16), some 11, none⟩, []⟩,
  ⟨⟨.extract (.slot 11) 0, some 17, none⟩, []⟩,
  ⟨⟨.extract (.slot 11) 1, some 18, none⟩, []⟩,
  ⟨⟨.mv (.slot 17), some 1, none⟩, []⟩,
  ⟨⟨.mv (.slot 18), some 2, none⟩, []⟩]
def r113_2 : List XLine := [⟨⟨.mv (.slot 0), some 20, none⟩, []⟩,
  ⟨⟨.mv (.slot 2), some 21, none⟩, []⟩,
  ⟨⟨.mv (.slot 3), some 22, none⟩, []⟩,
  ⟨⟨.mv (.slot 4), some 23, none⟩, []⟩,
  ⟨⟨.call (.const (.func 118 [] [])) [(.slot 20), (.slot 21), (.slot 22), (.slot 23)], some 24, none⟩, []⟩,
  ⟨⟨.mv (.slot 24), some 19, none⟩, []⟩,
  ⟨⟨.extract (.slot 19) 0, some 25, none⟩, []⟩,
  ⟨⟨.extract (.slot 19) 1, some 26, none⟩, []⟩,
  ⟨⟨.mv (.slot 25), some 2, none⟩, []⟩,
  ⟨⟨.mv (.slot 26), some 3, none⟩, []⟩]
def r113_3 : List XLine := [⟨⟨.mv (.slot 0), some 28, none⟩, []⟩,
  ⟨⟨.mv (.slot 1), some 29, none⟩, []⟩,
  ⟨⟨.mv (.slot 2), some 30, none⟩, []⟩,
  ⟨⟨.mv (.slot 4), some 31, none⟩, []⟩,
  ⟨⟨.call (.const (.func 118 [] [])) [(.slot 28), (.slot 29), (.slot 30), (.slot 31)], some 32, none⟩, []⟩,
  ⟨⟨.mv (.slot 32), some 27, none⟩, []⟩,
  ⟨⟨.extract (.slot 27) 0, some 33, none⟩, []⟩,
  ⟨⟨.extract (.slot 27) 1, some 34, none⟩, []⟩,
  ⟨⟨.mv (.slot 33), some 1, none⟩, []⟩,
  ⟨⟨.mv (.slot 34), some 2, none⟩, []⟩]
def r113_4 : List XLine := [⟨⟨.mv (.slot 2), some 35, none⟩, []⟩,
  ⟨⟨.mv (.slot 35), some 10, none⟩, []⟩]
def xf113 : XFunc := ⟨(.seq (.region false r113_0)
  (.seq (.region false r113_1)
  (.seq (.region false r113_2)
  (.seq (.region false r113_3)
  (.seq (.region false r113_4)
  .ret))))),
  [.tmp 10]⟩
theorem xf113_ok : compFunc Tryz.prog Tryz.f113 = some xf113 := by kernel_rfl
/- cmp.isNaN[int64] -/
def r114_0 : List XLine := [⟨⟨.mv (.const (.bool false)), some 2, none⟩, []⟩]
def r114_1 : List XLine := [⟨⟨.mv (.slot 0), some 3, none⟩, []⟩,
  ⟨⟨.mv (.slot 0), some 4, none⟩, []⟩,
  ⟨⟨.bin .neq 2 .num (.slot 3) (.slot 4), some 5, none⟩, []⟩,
  ⟨⟨.mv (.slot 5), some 2, none⟩, []⟩]
def xf114 : XFunc := ⟨(.seq (.region false r114_0)
  (.seq (.region false r114_1)
  .ret)),
  [.tmp 2]⟩
theorem xf114_ok : compFunc Tryz.prog Tryz.f114 = some xf114 := by kernel_rfl
/- slices.siftDownCmpFunc[threshing/api.Lit] -/
def r115_0 : List XLine := [⟨⟨.mv (.slot 1), some 12, none⟩, []⟩,
  ⟨⟨.mv (.slot 12), some 10, none⟩, []⟩]
def r115_1 : List XLine := [⟨⟨.mv (.slot 10), some 13, none⟩, []⟩,
  ⟨⟨.bin .mul 3 .num (.const (.int .i64 (.ofNat 2))) (.slot 13), some 14, none⟩, []⟩,
  ⟨⟨.bin .add 3 .num (.slot 14) (.const (.int .i64 (.ofNat 1))), some 15, none⟩, []⟩,
  ⟨⟨.mv (.slot 15), some 11, none⟩, []⟩]
def r115_2 : List XLine := [⟨⟨.mv (.slot 11), some 16, none⟩, []⟩,
  ⟨⟨.mv (.slot 2), some 17, none⟩, []⟩,
  ⟨⟨.bin .geq 3 .num (.slot 16) (.slot 17), some 18, none⟩, []⟩]
def r115_3 : List XLine := [⟨⟨.mv (.slot 11), some 19, none⟩, []⟩,
  ⟨⟨.bin .add 3 .num (.slot 19) (.const (.int .i64 (.ofNat 1))), some 20, none⟩, []⟩,
  ⟨⟨.mv (.slot 2), some 21, none⟩, []⟩,
  ⟨⟨.bin .lss 3 .num (.slot 20) (.slot 21), some 22, none⟩, []⟩,
  ⟨⟨.mv (.slot 22), some 23, none⟩, []⟩,
  ⟨⟨.mv (.slot 4), some 24, some (23, true)⟩, []⟩,
  ⟨⟨.mv (.slot 0), some 25, some (23, true)⟩, []⟩,
  ⟨⟨.mv (.slot 3), some 26, some (23, true)⟩, []⟩,
  ⟨⟨.mv (.slot 11), some 27, some (23, true)⟩, []⟩,
  ⟨⟨.bin .add 3 .num (.slot 26) (.slot 27), some 28, some (23, true)⟩, []⟩,
  ⟨⟨.iaddr 1 (.slot 25) (.slot 28), some 29, some (23, true)⟩, []⟩,
  ⟨⟨.load false 1 (.slot 29), some 30, some (23, true)⟩, []⟩,
  ⟨⟨.mv (.slot 0), some 31, some (23, true)⟩, []⟩,
  ⟨⟨.mv (.slot 3), some 32, some (23, true)⟩, []⟩,
  ⟨⟨.mv (.slot 11), some 33, some (23, true)⟩, []⟩,
  ⟨⟨.bin .add 3 .num (.slot 32) (.slot 33), some 34, some (23, true)⟩, []⟩,
  ⟨⟨.bin .add 3 .num (.slot 34) (.const (.int .i64 (.ofNat 1))), some 35, some (23, true)⟩, []⟩,
  ⟨⟨.iaddr 1 (.slot 31) (.slot 35), some 36, some (23, true)⟩, []⟩,
  ⟨⟨.load false 1 (.slot 36), some 37, some (23, true)⟩, []⟩,
  ⟨⟨.call (.slot 24) [(.slot 30), (.slot 37)], some 38, some (23, true)⟩, []⟩,
  ⟨⟨.bin .lss 3 .num (.slot 38) (.const (.int .i64 (.ofNat 0))), some 39, some (23, true)⟩, []⟩,
  ⟨⟨.pick (.slot 23) (.slot 39) (.const (.bool false)), some 40, none⟩, []⟩]
def r115_4 : List XLine := [⟨⟨.mv (.slot 11), some 41, none⟩, []⟩,
  ⟨⟨.bin .add 3 .num (.slot 41) (.const (.int .i64 (.ofNat 1))), some 42, none⟩, []⟩,
  ⟨⟨.mv (.slot 42), some 11, none⟩, []⟩]
def r115_5 : List XLine := [⟨⟨.mv (.slot 4), some 43, none⟩, []⟩,
  ⟨⟨.mv (.slot 0), some 44, none⟩, []⟩,
  ⟨⟨.mv (.slot 3), some 45, none⟩, []⟩,
  ⟨⟨.mv (.slot 10), some 46, none⟩, []⟩,
  ⟨⟨.bin .add 3 .num (.slot 45) (.slot 46), some 47, none⟩, []⟩,
  ⟨⟨.iaddr 1 (.slot 44) (.slot 47), some 48, none⟩, []⟩,
  ⟨⟨.load false 1 (.slot 48), some 49, none⟩, []⟩,
  ⟨⟨.mv (.slot 0), some 50, none⟩, []⟩,
  ⟨⟨.mv (.slot 3), some 51, none⟩, []⟩,
  ⟨⟨.mv (.slot 11), some 52, none⟩, []⟩,
  ⟨⟨.bin .add 3 .num (.slot 51) (.slot 52), some 53, none⟩, []⟩,
  ⟨⟨.iaddr 1 (.slot 50) (.slot 53), some 54, none⟩, []⟩,
  ⟨⟨.load false 1 (.slot 54), some 55, none⟩, []⟩,
  ⟨⟨.call (.slot 43) [(.slot 49), (.slot 55)], some 56, none⟩, []⟩,
  ⟨⟨.bin .lss 3 .num (.slot 56) (.const (.int .i64 (.ofNat 0))), some 57, none⟩, []⟩,
  ⟨⟨.un .not (.slot 57), some 58, none⟩, []⟩]
def r115_6 : List XLine := [⟨⟨.mv (.slot 0), some 59, none⟩, []⟩,
  ⟨⟨.mv (.slot 3), some 60, none⟩, []⟩,
  ⟨⟨.mv (.slot 10), some 61, none⟩, []⟩,
  ⟨⟨.bin .add 3 .num (.slot 60) (.slot 61), some 62, none⟩, []⟩,
  ⟨⟨.mv (.slot 0), some 63, none⟩, []⟩,
  ⟨⟨.mv (.slot 3), some 64, none⟩, []⟩,
  ⟨⟨.mv (.slot 11), some 65, none⟩, []⟩,
  ⟨⟨.bin .add 3 .num (.slot 64) (.slot 65), some 66, none⟩, []⟩,
  ⟨⟨.mv (.slot 0), some 67, none⟩, []⟩,
  ⟨⟨.mv (.slot 3), some 68, none⟩, []⟩,
  ⟨⟨.mv (.slot 11), some 69, none⟩, []⟩,
  ⟨⟨.bin .add 3 .num (.slot 68) (.slot 69), some 70, none⟩, []⟩,
  ⟨⟨.iaddr 1 (.slot 67) (.slot 70), some 71, none⟩, []⟩,
  ⟨⟨.load false 1 (.slot 71), some 72, none⟩, []⟩,
  ⟨⟨.mv (.slot 0), some 73, none⟩, []⟩,
  ⟨⟨.mv (.slot 3), some 74, none⟩, []⟩,
  ⟨⟨.mv (.slot 10), some 75, none⟩, []⟩,
  ⟨⟨.bin .add 3 .num (.slot 74) (.slot 75), some 76, none⟩, []⟩,
  ⟨⟨.iaddr 1 (.slot 73) (.slot 76), some 77, none⟩, []⟩,
  ⟨⟨.load false 1 (.slot 77), some 78, none⟩, []⟩,
  ⟨⟨.iaddr 1 (.slot 59) (.slot 62), some 79, none⟩, []⟩,
  ⟨⟨.store 1 (.slot 79) (.slot 72), none, none⟩, []⟩,
  ⟨⟨.iaddr 1 (.slot 63) (.slot 66), some 80, none⟩, []⟩,
  ⟨⟨.store 1 (.slot 80) (.slot 78), none, none⟩, []⟩]
def r115_7 : List XLine := [⟨⟨.mv (.slot 11), some 81, none⟩, []⟩,
  ⟨⟨.mv (.slot 81), some 10, none⟩, []⟩]
def xf115 : XFunc := ⟨(.seq (.region false r115_0)
  (.block 0 (.loop (.block 1 (.seq (.region false r115_1)
  (.seq (.seq (.region false r115_2)
  (.cond (.slot 18)
  (.exit 0)
  .skip))
  (.seq (.seq (.region true r115_3)
  (.cond (.slot 40)
  (.region false r115_4)
  .skip))
  (.seq (.seq (.region true r115_5)
  (.cond (.slot 58)
  .ret
  .skip))
  (.seq (.region true r115_6)
  (.region false r115_7)))))))))),
  []⟩
theorem xf115_ok : compFunc Tryz.prog Tryz.f115 = some xf115 := by kernel_rfl
/- slices.medianAdjacentCmpFunc[threshing/api.Lit] -/
def r116_0 : List XLine := [⟨⟨.mv (.const (.int .i64 (.ofNat 0))), some 8, none⟩, []⟩]
def r116_1 : List XLine := [⟨⟨.mv (.slot 0), some 9, none⟩, []⟩,
  ⟨⟨.mv (.slot 1), some 10, none⟩, []⟩,
  ⟨⟨.bin .sub 3 .num (.slot 10) (.const (.int .i64 (.ofNat 1))), some 11, none⟩, []⟩,
  ⟨⟨.mv (.slot 1), some 12, none⟩, []⟩,
  ⟨⟨.mv (.slot 1), some 13, none⟩, []⟩,
  ⟨⟨.bin .add 3 .num (.slot 13) (.const (.int .i64 (.ofNat 1))), some 14, none⟩, []⟩,
  ⟨⟨.mv (.slot 2), some 15, none⟩, []⟩,
  ⟨⟨.mv (.slot 3), some 16, none⟩, []⟩,
  ⟨⟨.call (.const (.func 117 [] [])) [(.slot 9), (.slot 11), (.slot 12), (.slot 14), (.slot 15), (.slot 16)], some 17, none⟩, []⟩,
  ⟨⟨.mv (.slot 17), some 8, none⟩, []⟩]
def xf116 : XFunc := ⟨(.seq (.region false r116_0)
  (.seq (.region false r116_1)
  .ret)),
  [.tmp 8]⟩
theorem xf116_ok : compFunc Tryz.prog Tryz.f116 = some xf116 := by kernel_rfl
/- slices.medianCmpFunc[threshing/api.Lit] -/
def r117_0 : List XLine := [⟨⟨.mv (.const (.int .i64 (.ofNat 0))), some 12, none⟩, []⟩]
def r117_1 : List XLine := [⟨⟨.mv (.slot 0), some 14, none⟩, []⟩,
  ⟨⟨.mv (.slot 1), some 15, none⟩, []⟩,
  ⟨⟨.mv (.slot 2), some 16, none⟩, []⟩,
  ⟨⟨.mv (.slot 4), some 17, none⟩, []⟩,
  ⟨⟨.mv (.slot 5), some 18, none⟩, []⟩,
  ⟨⟨.call (.const (.func 119 [] [])) [(.slot 14), (.slot 15), (.slot 16), (.slot 17), (.slot 18)], some 19, none⟩, []⟩,
  ⟨⟨.mv (.slot 19), some 13, none⟩, []⟩,
  ⟨⟨.extract (.slot 13) 0, some 20, none⟩, []⟩,
  ⟨⟨.extract (.slot 13) 1, some 21, none⟩, []⟩,
  ⟨⟨.mv (.slot 20), some 1, none⟩, []⟩,
  ⟨⟨.mv (.slot 21), some 2, none⟩, []⟩]
def r117_2 : List XLine := [⟨⟨.mv (.slot 0), some 23, none⟩, []⟩,
  ⟨⟨.mv (.slot 2), some 24, none⟩, []⟩,
  ⟨⟨.mv (.slot 3), some 25, none⟩, []⟩,
  ⟨⟨.mv (.slot 4), some 26, none⟩, []⟩,
  ⟨⟨.mv (.slot 5), some 27, none⟩, []⟩,
  ⟨⟨.call (.const (.func 119 [] [])) [(.slot 23), (.slot 24), (.slot 25), (.slot 26), (.slot 27)], some 28, none⟩, []⟩,
  ⟨⟨.mv (.slot 28), some 22, none⟩, []⟩,
  ⟨⟨.extract (.slot 22) 0, some 29, none⟩, []⟩,
  ⟨⟨.extract (.slot 22) 1, some 30, none⟩, []⟩,
  ⟨⟨.mv (.slot 29), some 2, none⟩, []⟩,
  ⟨⟨.mv (.slot 30), some 3, none⟩, []⟩]
def r117_3 : List XLine := [⟨⟨.mv (.slot 0), some 32, none⟩, []⟩,
  ⟨⟨.mv (.slot 1), some 33, none⟩, []⟩,
  ⟨⟨.mv (.slot 2), some 34, none⟩, []⟩,
  ⟨⟨.mv (.slot 4), some 35, none⟩, []⟩,
  ⟨⟨.mv (.slot 5), some 36, none⟩, []⟩,
  ⟨⟨.call (.const (.func 119 [] [])) [(.slot 32), (.slot 33), (.slot 34), (.slot 35), (.slot 36)], some 37, none⟩, []⟩,
  ⟨⟨.mv (.slot 37), some 31, none⟩, []⟩,
  ⟨⟨.extract (.slot 31) 0, some 38, none⟩, []⟩,
  ⟨⟨.extract (.slot 31) 1, some 39, none⟩, []⟩,
  ⟨⟨.mv (.slot 38), some 1, none⟩, []⟩,
  ⟨⟨.mv (.slot 39), some 2, none⟩, []⟩]
def r117_4 : List XLine := [⟨⟨.mv (.slot 2), some 40, none⟩, []⟩,
  ⟨⟨.mv (.slot 40), some 12, none⟩, []⟩]
def xf117 : XFunc := ⟨(.seq (.region false r117_0)
  (.seq (.region false r117_1)
  (.seq (.region false r117_2)
  (.seq (.region false r117_3)
  (.seq (.region false r117_4)
  .ret))))),
  [.tmp 12]⟩
theorem xf117_ok : compFunc Tryz.prog Tryz.f117 = some xf117 := by kernel_rfl
/- slices.order2Ordered[int64] -/
def r118_0 : List XLine := [⟨⟨.mv (.const (.int .i64 (.ofNat 0))), some 8, none⟩, []⟩,
  ⟨⟨.mv (.const (.int .i64 (.ofNat 0))), some 9, none⟩, []⟩]
def r118_1 : List XLine := [⟨⟨.mv (.slot 0), some 10, none⟩, []⟩,
  ⟨⟨.mv (.slot 2), some 11, none⟩, []⟩,
  ⟨⟨.iaddr 1 (.slot 10) (.slot 11), some 12, none⟩, []⟩,
  ⟨⟨.load false 1 (.slot 12), some 13, none⟩, []⟩,
  ⟨⟨.mv (.slot 0), some 14, none⟩, []⟩,
  ⟨⟨.mv (.slot 1), some 15, none⟩, []⟩,
  ⟨⟨.iaddr 1 (.slot 14) (.slot 15), some 16, none⟩, []⟩,
  ⟨⟨.load false 1 (.slot 16), some 17, none⟩, []⟩,
  ⟨⟨.call (.const (.func 91 [] [])) [(.slot 13), (.slot 17)], some 18, none⟩, []⟩]
def r118_2 : List XLine := [⟨⟨.mv (.slot 3), some 19, none⟩, []⟩,
  ⟨⟨.nilCheck (.slot 19), some 20, none⟩, []⟩,
  ⟨⟨.load false 1 (.slot 20), some 21, none⟩, []⟩,
  ⟨⟨.bin .add 3 .num (.slot 21) (.const (.int .i64 (.ofNat 1))), some 22, none⟩, []⟩,
  ⟨⟨.nilCheck (.slot 19), some 23, none⟩, []⟩,
  ⟨⟨.store 1 (.slot 23) (.slot 22), none, none⟩, []⟩]
def r118_3 : List XLine := [⟨⟨.mv (.slot 2), some 24, none⟩, []⟩,
  ⟨⟨.mv (.slot 1), some 25, none⟩, []⟩,
  ⟨⟨.mv (.slot 24), some 8, none⟩, []⟩,
  ⟨⟨.mv (.slot 25), some 9, none⟩, []⟩]
def r118_4 : List XLine := [⟨⟨.mv (.slot 1), some 26, none⟩, []⟩,
  ⟨⟨.mv (.slot 2), some 27, none⟩, []⟩,
  ⟨⟨.mv (.slot 26), some 8, none⟩, []⟩,
  ⟨⟨.mv (.slot 27), some 9, none⟩, []⟩]
def xf118 : XFunc := ⟨(.seq (.region false r118_0)
  (.seq (.seq (.region true r118_1)
  (.cond (.slot 18)
  (.seq (.region false r118_2)
  (.seq (.region false r118_3)
  .ret))
  .skip))
  (.seq (.region false r118_4)
  .ret))),
  [.tmp 8, .tmp 9]⟩
theorem xf118_ok : compFunc Tryz.prog Tryz.f118 = some xf118 := by kernel_rfl
/- slices.order2CmpFunc[threshing/api.Lit] -/
def r119_0 : List XLine := [⟨⟨.mv (.const (.int .i64 (.ofNat 0))), some 10, none⟩, []⟩,
  ⟨⟨.mv (.const (.int .i64 (.ofNat 0))), some 11, none⟩, []⟩]
def r119_1 : List XLine := [⟨⟨.mv (.slot 4), some 12, none⟩, []⟩,
  ⟨⟨.mv (.slot 0), some 13, none⟩, []⟩,
  ⟨⟨.mv (.slot 2), some 14, none⟩, []⟩,
  ⟨⟨.iaddr 1 (.slot 13) (.slot 14), some 15, none⟩, []⟩,
  ⟨⟨.load false 1 (.slot 15), some 16, none⟩, []⟩,
  ⟨⟨.mv (.slot 0), some 17, none⟩, []⟩,
  ⟨⟨.mv (.slot 1), some 18, none⟩, []⟩,
  ⟨⟨.iaddr 1 (.slot 17) (.slot 18), some 19, none⟩, []⟩,
  ⟨⟨.load false 1 (.slot 19), some 20, none⟩, []⟩,
  ⟨⟨.call (.slot 12) [(.slot 16), (.slot 20)], some 21, none⟩, []⟩,
  ⟨⟨.bin .lss 3 .num (.slot 21) (.const (.int .i64 (.ofNat 0))), some 22, none⟩, []⟩]
def r119_2 : List XLine := [⟨⟨.mv (.slot 3), some 23, none⟩, []⟩,
  ⟨⟨.nilCheck (.slot 23), some 24, none⟩, []⟩,
  ⟨⟨.load false 1 (.slot 24), some 25, none⟩, []⟩,
  ⟨⟨.bin .add 3 .num (.slot 25) (.const (.int .i64 (.ofNat 1))), some 26, none⟩, []⟩,
  ⟨⟨.nilCheck (.slot 23), some 27, none⟩, []⟩,
  ⟨⟨.store 1 (.slot 27) (.slot 26), none, none⟩, []⟩]
def r119_3 : List XLine := [⟨⟨.mv (.slot 2), some 28, none⟩, []⟩,
  ⟨⟨.mv (.slot 1), some 29, none⟩, []⟩,
  ⟨⟨.mv (.slot 28), some 10, none⟩, []⟩,
  ⟨⟨.mv (.slot 29), some 11, none⟩, []⟩]
def r119_4 : List XLine := [⟨⟨.mv (.slot 1), some 30, none⟩, []⟩,
  ⟨⟨.mv (.slot 2), some 31, none⟩, []⟩,
  ⟨⟨.mv (.slot 30), some 10, none⟩, []⟩,
  ⟨⟨.mv (.slot 31), some 11, none⟩, []⟩]
def xf119 : XFunc := ⟨(.seq (.region false r119_0)
  (.seq (.seq (.region true r119_1)
  (.cond (.slot 22)
  (.seq (.region false r119_2)
  (.seq (.region false r119_3)
  .ret))
  .skip))
  (.seq (.region false r119_4)
  .ret))),
  [.tmp 10, .tmp 11]⟩
theorem xf119_ok : compFunc Tryz.prog Tryz.f119 = some xf119 := by kernel_rfl
/- (threshing/unit.ids).Less -/
def r138_0 : List XLine := [⟨⟨.mv (.const (.bool false)), some 6, none⟩, []⟩]
def r138_1 : List XLine := [⟨⟨.mv (.slot 0), some 7, none⟩, []⟩,
  ⟨⟨.mv (.slot 1), some 8, none⟩, []⟩,
  ⟨⟨.iaddr 1 (.slot 7) (.slot 8), some 9, none⟩, []⟩,
  ⟨⟨.load false 1 (.slot 9), some 10, none⟩, []⟩,
  ⟨⟨.mv (.slot 0), some 11, none⟩, []⟩,
  ⟨⟨.mv (.slot 2), some 12, none⟩, []⟩,
  ⟨⟨.iaddr 1 (.slot 11) (.slot 12), some 13, none⟩, []⟩,
  ⟨⟨.load false 1 (.slot 13), some 14, none⟩, []⟩,
  ⟨⟨.bin .lss 2 .num (.slot 10) (.slot 14), some 15, none⟩, []⟩,
  ⟨⟨.mv (.slot 15), some 6, none⟩, []⟩]
def xf138 : XFunc := ⟨(.seq (.region false r138_0)
  (.seq (.region true r138_1)
  .ret)),
  [.tmp 6]⟩
theorem xf138_ok : compFunc Tryz.prog Tryz.f138 = some xf138 := by kernel_rfl
/- (threshing/unit.ids).Swap -/
def r139_0 : List XLine := [⟨⟨.mv (.slot 0), some 6, none⟩, []⟩,
  ⟨⟨.mv (.slot 1), some 7, none⟩, []⟩,
  ⟨⟨.mv (.slot 0), some 8, none⟩, []⟩,
  ⟨⟨.mv (.slot 2), some 9, none⟩, []⟩,
  ⟨⟨.mv (.slot 0), some 10, none⟩, []⟩,
  ⟨⟨.mv (.slot 2), some 11, none⟩, []⟩,
  ⟨⟨.iaddr 1 (.slot 10) (.slot 11), some 12, none⟩, []⟩,
  ⟨⟨.load false 1 (.slot 12), some 13, none⟩, []⟩,
  ⟨⟨.mv (.slot 0), some 14, none⟩, []⟩,
  ⟨⟨.mv (.slot 1), some 15, none⟩, []⟩,
  ⟨⟨.iaddr 1 (.slot 14) (.slot 15), some 16, none⟩, []⟩,
  ⟨⟨.load false 1 (.slot 16), some 17, none⟩, []⟩,
  ⟨⟨.iaddr 1 (.slot 6) (.slot 7), some 18, none⟩, []⟩,
  ⟨⟨.store 1 (.slot 18) (.slot 13), none, none⟩, []⟩,
  ⟨⟨.iaddr 1 (.slot 8) (.slot 9), some 19, none⟩, []⟩,
  ⟨⟨.store 1 (.slot 19) (.slot 17), none, none⟩, []⟩]
def xf139 : XFunc := ⟨(.region true r139_0),
  []⟩
theorem xf139_ok : compFunc Tryz.prog Tryz.f139 = some xf139 := by kernel_rfl
/- (*threshing/unit.ids).Pop -/
def r140_0 : List XLine := [⟨⟨.mv (.const .nili), some 2, none⟩, []⟩]
def r140_1 : List XLine := [⟨⟨.mv (.slot 0), some 4, none⟩, []⟩,
  ⟨⟨.nilCheck (.slot 4), some 5, none⟩, []⟩,
  ⟨⟨.load false 1 (.slot 5), some 6, none⟩, []⟩,
  ⟨⟨.mv (.slot 0), some 7, none⟩, []⟩,
  ⟨⟨.nilCheck (.slot 7), some 8, none⟩, []⟩,
  ⟨⟨.load false 1 (.slot 8), some 9, none⟩, []⟩,
  ⟨⟨.len .slice (.slot 9), some 10, none⟩, []⟩,
  ⟨⟨.bin .sub 3 .num (.slot 10) (.const (.int .i64 (.ofNat 1))), some 11, none⟩, []⟩,
  ⟨⟨.iaddr 1 (.slot 6) (.slot 11), some 12, none⟩, []⟩,
  ⟨⟨.load false 1 (.slot 12), some 13, none⟩, []⟩,
  ⟨⟨.mv (.slot 13), some 3, none⟩, []⟩]
def r140_2 : List XLine := [⟨⟨.mv (.slot 0), some 14, none⟩, []⟩,
  ⟨⟨.mv (.slot 0), some 15, none⟩, []⟩,
  ⟨⟨.nilCheck (.slot 15), some 16, none⟩, []⟩,
  ⟨⟨.load false 1 (.slot 16), some 17, none⟩, []⟩,
  ⟨⟨.mv (.slot 0), some 18, none⟩, []⟩,
  ⟨⟨.nilCheck (.slot 18), some 19, none⟩, []⟩,
  ⟨⟨.load false 1 (.slot 19), some 20, none⟩, []⟩,
  ⟨⟨.len .slice (.slot 20), some 21, none⟩, []⟩,
  ⟨⟨.bin .sub 3 .num (.slot 21) (.const (.int .i64 (.ofNat 1))), some 22, none⟩, []⟩,
  ⟨⟨.slc 1 (.slot 17) none (some (.slot 22)) none, some 23, none⟩, []⟩,
  ⟨⟨.nilCheck (.slot 14), some 24, none⟩, []⟩,
  ⟨⟨.store 1 (.slot 24) (.slot 23), none, none⟩, []⟩]
def r140_3 : List XLine := [⟨⟨.mv (.slot 3), some 25, none⟩, []⟩,
  ⟨⟨.mkif 2 (.slot 25), some 26, none⟩, []⟩,
  ⟨⟨.mv (.slot 26), some 2, none⟩, []⟩]
def xf140 : XFunc := ⟨(.seq (.region false r140_0)
  (.seq (.region true r140_1)
  (.seq (.region true r140_2)
  (.seq (.region false r140_3)
  .ret)))),
  [.tmp 2]⟩
theorem xf140_ok : compFunc Tryz.prog Tryz.f140 = some xf140 := by kernel_rfl
/- (*threshing/unit.ids).Push -/
def r141_0 : List XLine := [⟨⟨.mv (.slot 0), some 4, none⟩, []⟩,
  ⟨⟨.mv (.slot 0), some 5, none⟩, []⟩,
  ⟨⟨.nilCheck (.slot 5), some 6, none⟩, []⟩,
  ⟨⟨.load false 1 (.slot 6), some 7, none⟩, []⟩,
  ⟨⟨.mv (.slot 1), some 8, none⟩, []⟩,
  ⟨⟨.tassert 2 (.int .i64 (.ofNat 0)) false (.slot 8), some 9, none⟩, []⟩,
  ⟨⟨.bslice 1 [(.int .i64 (.ofNat 0))] [(0, 1, (.slot 9))] 1, some 10, none⟩, [⟨.load false 1 (.slot 6), some 7, none⟩]⟩,
  ⟨⟨.append 1 8 (.slot 7) (.slot 10), some 11, none⟩, []⟩,
  ⟨⟨.nilCheck (.slot 4), some 12, none⟩, []⟩,
  ⟨⟨.store 1 (.slot 12) (.slot 11), none, none⟩, []⟩]
def xf141 : XFunc := ⟨(.region true r141_0),
  []⟩
theorem xf141_ok : compFunc Tryz.prog Tryz.f141 = some xf141 := by kernel_rfl
end Go.Proofs.YtcpkfdabkpeomaaGreat

/- The functions of the program in X's code, printed by a program of ours; each is what the program's own is turned to. -/
import Derived.Test.YtaljkapnfkbdbaaProg
import Derived.Test.YtaljkapnfkbdbaaW0
import Derived.KernelRfl
namespace Go.Proofs.Ytaljkapnfkbdbaa
open Go.Xr
/- slices.partitionEqualCmpFunc[threshing/api.Lit] -/
def r67_0 : List XLine := [⟨⟨.mv (.const (.int .i64 (.ofNat 0))), some 10, none⟩, []⟩]
def r67_1 : List XLine := [⟨⟨.mv (.slot 0), some 13, none⟩, []⟩,
  ⟨⟨.mv (.slot 1), some 14, none⟩, []⟩,
  ⟨⟨.mv (.slot 0), some 15, none⟩, []⟩,
  ⟨⟨.mv (.slot 3), some 16, none⟩, []⟩,
  ⟨⟨.mv (.slot 0), some 17, none⟩, []⟩,
  ⟨⟨.mv (.slot 3), some 18, none⟩, []⟩,
  ⟨⟨.iaddr 1 (.slot 17) (.slot 18), some 19, none⟩, []⟩,
  ⟨⟨.load false 1 (.slot 19), some 20, none⟩, []⟩,
  ⟨⟨.mv (.slot 0), some 21, none⟩, []⟩,
  ⟨⟨.mv (.slot 1), some 22, none⟩, []⟩,
  ⟨⟨.iaddr 1 (.slot 21) (.slot 22), some 23, none⟩, []⟩,
  ⟨⟨.load false 1 (.slot 23), some 24, none⟩, []⟩,
  ⟨⟨.iaddr 1 (.slot 13) (.slot 14), some 25, none⟩, []⟩,
  ⟨⟨.store 1 (.slot 25) (.slot 20), none, none⟩, []⟩,
  ⟨⟨.iaddr 1 (.slot 15) (.slot 16), some 26, none⟩, []⟩,
  ⟨⟨.store 1 (.slot 26) (.slot 24), none, none⟩, []⟩]
def r67_2 : List XLine := [⟨⟨.mv (.slot 1), some 27, none⟩, []⟩,
  ⟨⟨.bin .add 3 .num (.slot 27) (.const (.int .i64 (.ofNat 1))), some 28, none⟩, []⟩,
  ⟨⟨.mv (.slot 2), some 29, none⟩, []⟩,
  ⟨⟨.bin .sub 3 .num (.slot 29) (.const (.int .i64 (.ofNat 1))), some 30, none⟩, []⟩,
  ⟨⟨.mv (.slot 28), some 11, none⟩, []⟩,
  ⟨⟨.mv (.slot 30), some 12, none⟩, []⟩]
def r67_3 : List XLine := [⟨⟨.mv (.slot 11), some 31, none⟩, []⟩,
  ⟨⟨.mv (.slot 12), some 32, none⟩, []⟩,
  ⟨⟨.bin .leq 3 .num (.slot 31) (.slot 32), some 33, none⟩, []⟩,
  ⟨⟨.mv (.slot 33), some 34, none⟩, []⟩,
  ⟨⟨.mv (.slot 4), some 35, some (34, true)⟩, []⟩,
  ⟨⟨.mv (.slot 0), some 36, some (34, true)⟩, []⟩,
  ⟨⟨.mv (.slot 1), some 37, some (34, true)⟩, []⟩,
  ⟨⟨.iaddr 1 (.slot 36) (.slot 37), some 38, some (34, true)⟩, []⟩,
  ⟨⟨.load false 1 (.slot 38), some 39, some (34, true)⟩, []⟩,
  ⟨⟨.mv (.slot 0), some 40, some (34, true)⟩, []⟩,
  ⟨⟨.mv (.slot 11), some 41, some (34, true)⟩, []⟩,
  ⟨⟨.iaddr 1 (.slot 40) (.slot 41), some 42, some (34, true)⟩, []⟩,
  ⟨⟨.load false 1 (.slot 42), some 43, some (34, true)⟩, []⟩,
  ⟨⟨.call (.slot 35) [(.slot 39), (.slot 43)], some 44, some (34, true)⟩, []⟩,
  ⟨⟨.bin .lss 3 .num (.slot 44) (.const (.int .i64 (.ofNat 0))), some 45, some (34, true)⟩, []⟩,
  ⟨⟨.un .not (.slot 45), some 46, some (34, true)⟩, []⟩,
  ⟨⟨.pick (.slot 34) (.slot 46) (.const (.bool false)), some 47, none⟩, []⟩]
def r67_4 : List XLine := [⟨⟨.mv (.slot 11), some 48, none⟩, []⟩,
  ⟨⟨.bin .add 3 .num (.slot 48) (.const (.int .i64 (.ofNat 1))), some 49, none⟩, []⟩,
  ⟨⟨.mv (.slot 49), some 11, none⟩, []⟩]
def r67_5 : List XLine := [⟨⟨.mv (.slot 11), some 50, none⟩, []⟩,
  ⟨⟨.mv (.slot 12), some 51, none⟩, []⟩,
  ⟨⟨.bin .leq 3 .num (.slot 50) (.slot 51), some 52, none⟩, []⟩,
  ⟨⟨.mv (.slot 52), some 53, none⟩, []⟩,
  ⟨⟨.mv (.slot 4), some 54, some (53, true)⟩, []⟩,
  ⟨⟨.mv (.slot 0), some 55, some (53, true)⟩, []⟩,
  ⟨⟨.mv (.slot 1), some 56, some (53, true)⟩, []⟩,
  ⟨⟨.iaddr 1 (.slot 55) (.slot 56), some 57, some (53, true)⟩, []⟩,
  ⟨⟨.load false 1 (.slot 57), some 58, some (53, true)⟩, []⟩,
  ⟨⟨.mv (.slot 0), some 59, some (53, true)⟩, []⟩,
  ⟨⟨.mv (.slot 12), some 60, some (53, true)⟩, []⟩,
  ⟨⟨.iaddr 1 (.slot 59) (.slot 60), some 61, some (53, true)⟩, []⟩,
  ⟨⟨.load false 1 (.slot 61), some 62, some (53, true)⟩, []⟩,
  ⟨⟨.call (.slot 54) [(.slot 58), (.slot 62)], some 63, some (53, true)⟩, []⟩,
  ⟨⟨.bin .lss 3 .num (.slot 63) (.const (.int .i64 (.ofNat 0))), some 64, some (53, true)⟩, []⟩,
  ⟨⟨.pick (.slot 53) (.slot 64) (.const (.bool false)), some 65, none⟩, []⟩]
def r67_6 : List XLine := [⟨⟨.mv (.slot 12), some 66, none⟩, []⟩,
  ⟨⟨.bin .sub 3 .num (.slot 66) (.const (.int .i64 (.ofNat 1))), some 67, none⟩, []⟩,
  ⟨⟨.mv (.slot 67), some 12, none⟩, []⟩]
def r67_7 : List XLine := [⟨⟨.mv (.slot 11), some 68, none⟩, []⟩,
  ⟨⟨.mv (.slot 12), some 69, none⟩, []⟩,
  ⟨⟨.bin .gtr 3 .num (.slot 68) (.slot 69), some 70, none⟩, []⟩]
def r67_8 : List XLine := [⟨⟨.mv (.slot 0), some 71, none⟩, []⟩,
  ⟨⟨.mv (.slot 11), some 72, none⟩, []⟩,
  ⟨⟨.mv (.slot 0), some 73, none⟩, []⟩,
  ⟨⟨.mv (.slot 12), some 74, none⟩, []⟩,
  ⟨⟨.mv (.slot 0), some 75, none⟩, []⟩,
  ⟨⟨.mv (.slot 12), some 76, none⟩, []⟩,
  ⟨⟨.iaddr 1 (.slot 75) (.slot 76), some 77, none⟩, []⟩,
  ⟨⟨.load false 1 (.slot 77), some 78, none⟩, []⟩,
  ⟨⟨.mv (.slot 0), some 79, none⟩, []⟩,
  ⟨⟨.mv (.slot 11), some 80, none⟩, []⟩,
  ⟨⟨.iaddr 1 (.slot 79) (.slot 80), some 81, none⟩, []⟩,
  ⟨⟨.load false 1 (.slot 81), some 82, none⟩, []⟩,
  ⟨⟨.iaddr 1 (.slot 71) (.slot 72), some 83, none⟩, []⟩,
  ⟨⟨.store 1 (.slot 83) (.slot 78), none, none⟩, []⟩,
  ⟨⟨.iaddr 1 (.slot 73) (.slot 74), some 84, none⟩, []⟩,
  ⟨⟨.store 1 (.slot 84) (.slot 82), none, none⟩, []⟩]
def r67_9 : List XLine := [⟨⟨.mv (.slot 11), some 85, none⟩, []⟩,
  ⟨⟨.bin .add 3 .num (.slot 85) (.const (.int .i64 (.ofNat 1))), some 86, none⟩, []⟩,
  ⟨⟨.mv (.slot 86), some 11, none⟩, []⟩]
def r67_10 : List XLine := [⟨⟨.mv (.slot 12), some 87, none⟩, []⟩,
  ⟨⟨.bin .sub 3 .num (.slot 87) (.const (.int .i64 (.ofNat 1))), some 88, none⟩, []⟩,
  ⟨⟨.mv (.slot 88), some 12, none⟩, []⟩]
def r67_11 : List XLine := [⟨⟨.mv (.slot 11), some 89, none⟩, []⟩,
  ⟨⟨.mv (.slot 89), some 10, none⟩, []⟩]
def xf67 : XFunc := ⟨(.seq (.region false r67_0)
  (.seq (.region true r67_1)
  (.seq (.region false r67_2)
  (.seq (.block 0 (.loop (.block 1 (.seq (.block 2 (.loop (.seq (.seq (.region true r67_3)
  (.cond (.slot 47)
  .skip
  (.exit 2)))
  (.block 3 (.region false r67_4)))))
  (.seq (.block 4 (.loop (.seq (.seq (.region true r67_5)
  (.cond (.slot 65)
  .skip
  (.exit 4)))
  (.block 5 (.region false r67_6)))))
  (.seq (.seq (.region false r67_7)
  (.cond (.slot 70)
  (.exit 0)
  .skip))
  (.seq (.region true r67_8)
  (.seq (.region false r67_9)
  (.region false r67_10)))))))))
  (.seq (.region false r67_11)
  .ret))))),
  [.tmp 10]⟩
theorem xf67_ok : compFunc Try.prog Try.f67 = some xf67 := by kernel_rfl
/- slices.partitionCmpFunc[threshing/api.Lit] -/
def r68_0 : List XLine := [⟨⟨.mv (.const (.int .i64 (.ofNat 0))), some 10, none⟩, []⟩,
  ⟨⟨.mv (.const (.bool false)), some 11, none⟩, []⟩]
def r68_1 : List XLine := [⟨⟨.mv (.slot 0), some 14, none⟩, []⟩,
  ⟨⟨.mv (.slot 1), some 15, none⟩, []⟩,
  ⟨⟨.mv (.slot 0), some 16, none⟩, []⟩,
  ⟨⟨.mv (.slot 3), some 17, none⟩, []⟩,
  ⟨⟨.mv (.slot 0), some 18, none⟩, []⟩,
  ⟨⟨.mv (.slot 3), some 19, none⟩, []⟩,
  ⟨⟨.iaddr 1 (.slot 18) (.slot 19), some 20, none⟩, []⟩,
  ⟨⟨.load false 1 (.slot 20), some 21, none⟩, []⟩,
  ⟨⟨.mv (.slot 0), some 22, none⟩, []⟩,
  ⟨⟨.mv (.slot 1), some 23, none⟩, []⟩,
  ⟨⟨.iaddr 1 (.slot 22) (.slot 23), some 24, none⟩, []⟩,
  ⟨⟨.load false 1 (.slot 24), some 25, none⟩, []⟩,
  ⟨⟨.iaddr 1 (.slot 14) (.slot 15), some 26, none⟩, []⟩,
  ⟨⟨.store 1 (.slot 26) (.slot 21), none, none⟩, []⟩,
  ⟨⟨.iaddr 1 (.slot 16) (.slot 17), some 27, none⟩, []⟩,
  ⟨⟨.store 1 (.slot 27) (.slot 25), none, none⟩, []⟩]
def r68_2 : List XLine := [⟨⟨.mv (.slot 1), some 28, none⟩, []⟩,
  ⟨⟨.bin .add 3 .num (.slot 28) (.const (.int .i64 (.ofNat 1))), some 29, none⟩, []⟩,
  ⟨⟨.mv (.slot 2), some 30, none⟩, []⟩,
  ⟨⟨.bin .sub 3 .num (.slot 30) (.const (.int .i64 (.ofNat 1))), some 31, none⟩, []⟩,
  ⟨⟨.mv (.slot 29), some 12, none⟩, []⟩,
  ⟨⟨.mv (.slot 31), some 13, none⟩, []⟩]
def r68_3 : List XLine := [⟨⟨.mv (.slot 12), some 32, none⟩, []⟩,
  ⟨⟨.mv (.slot 13), some 33, none⟩, []⟩,
  ⟨⟨.bin .leq 3 .num (.slot 32) (.slot 33), some 34, none⟩, []⟩,
  ⟨⟨.mv (.slot 34), some 35, none⟩, []⟩,
  ⟨⟨.mv (.slot 4), some 36, some (35, true)⟩, []⟩,
  ⟨⟨.mv (.slot 0), some 37, some (35, true)⟩, []⟩,
  ⟨⟨.mv (.slot 12), some 38, some (35, true)⟩, []⟩,
  ⟨⟨.iaddr 1 (.slot 37) (.slot 38), some 39, some (35, true)⟩, []⟩,
  ⟨⟨.load false 1 (.slot 39), some 40, some (35, true)⟩, []⟩,
  ⟨⟨.mv (.slot 0), some 41, some (35, true)⟩, []⟩,
  ⟨⟨.mv (.slot 1), some 42, some (35, true)⟩, []⟩,
  ⟨⟨.iaddr 1 (.slot 41) (.slot 42), some 43, some (35, true)⟩, []⟩,
  ⟨⟨.load false 1 (.slot 43), some 44, some (35, true)⟩, []⟩,
  ⟨⟨.call (.slot 36) [(.slot 40), (.slot 44)], some 45, some (35, true)⟩, []⟩,
  ⟨⟨.bin .lss 3 .num (.slot 45) (.const (.int .i64 (.ofNat 0))), some 46, some (35, true)⟩, []⟩,
  ⟨⟨.pick (.slot 35) (.slot 46) (.const (.bool false)), some 47, none⟩, []⟩]
def r68_4 : List XLine := [⟨⟨.mv (.slot 12), some 48, none⟩, []⟩,
  ⟨⟨.bin .add 3 .num (.slot 48) (.const (.int .i64 (.ofNat 1))), some 49, none⟩, []⟩,
  ⟨⟨.mv (.slot 49), some 12, none⟩, []⟩]
def r68_5 : List XLine := [⟨⟨.mv (.slot 12), some 50, none⟩, []⟩,
  ⟨⟨.mv (.slot 13), some 51, none⟩, []⟩,
  ⟨⟨.bin .leq 3 .num (.slot 50) (.slot 51), some 52, none⟩, []⟩,
  ⟨⟨.mv (.slot 52), some 53, none⟩, []⟩,
  ⟨⟨.mv (.slot 4), some 54, some (53, true)⟩, []⟩,
  ⟨⟨.mv (.slot 0), some 55, some (53, true)⟩, []⟩,
  ⟨⟨.mv (.slot 13), some 56, some (53, true)⟩, []⟩,
  ⟨⟨.iaddr 1 (.slot 55) (.slot 56), some 57, some (53, true)⟩, []⟩,
  ⟨⟨.load false 1 (.slot 57), some 58, some (53, true)⟩, []⟩,
  ⟨⟨.mv (.slot 0), some 59, some (53, true)⟩, []⟩,
  ⟨⟨.mv (.slot 1), some 60, some (53, true)⟩, []⟩,
  ⟨⟨.iaddr 1 (.slot 59) (.slot 60), some 61, some (53, true)⟩, []⟩,
  ⟨⟨.load false 1 (.slot 61), some 62, some (53, true)⟩, []⟩,
  ⟨⟨.call (.slot 54) [(.slot 58), (.slot 62)], some 63, some (53, true)⟩, []⟩,
  ⟨⟨.bin .lss 3 .num (.slot 63) (.const (.int .i64 (.ofNat 0))), some 64, some (53, true)⟩, []⟩,
  ⟨⟨.un .not (.slot 64), some 65, some (53, true)⟩, []⟩,
  ⟨⟨.pick (.slot 53) (.slot 65) (.const (.bool false)), some 66, none⟩, []⟩]
def r68_6 : List XLine := [⟨⟨.mv (.slot 13), some 67, none⟩, []⟩,
  ⟨⟨.bin .sub 3 .num (.slot 67) (.const (.int .i64 (.ofNat 1))), some 68, none⟩, []⟩,
  ⟨⟨.mv (.slot 68), some 13, none⟩, []⟩]
def r68_7 : List XLine := [⟨⟨.mv (.slot 12), some 69, none⟩, []⟩,
  ⟨⟨.mv (.slot 13), some 70, none⟩, []⟩,
  ⟨⟨.bin .gtr 3 .num (.slot 69) (.slot 70), some 71, none⟩, []⟩]
def r68_8 : List XLine := [⟨⟨.mv (.slot 0), some 72, none⟩, []⟩,
  ⟨⟨.mv (.slot 13), some 73, none⟩, []⟩,
  ⟨⟨.mv (.slot 0), some 74, none⟩, []⟩,
  ⟨⟨.mv (.slot 1), some 75, none⟩, []⟩,
  ⟨⟨.mv (.slot 0), some 76, none⟩, []⟩,
  ⟨⟨.mv (.slot 1), some 77, none⟩, []⟩,
  ⟨⟨.iaddr 1 (.slot 76) (.slot 77), some 78, none⟩, []⟩,
  ⟨⟨.load false 1 (.slot 78), some 79, none⟩, []⟩,
  ⟨⟨.mv (.slot 0), some 80, none⟩, []⟩,
  ⟨⟨.mv (.slot 13), some 81, none⟩, []⟩,
  ⟨⟨.iaddr 1 (.slot 80) (.slot 81), some 82, none⟩, []⟩,
  ⟨⟨.load false 1 (.slot 82), some 83, none⟩, []⟩,
  ⟨⟨.iaddr 1 (.slot 72) (.slot 73), some 84, none⟩, []⟩,
  ⟨⟨.store 1 (.slot 84) (.slot 79), none, none⟩, []⟩,
  ⟨⟨.iaddr 1 (.slot 74) (.slot 75), some 85, none⟩, []⟩,
  ⟨⟨.store 1 (.slot 85) (.slot 83), none, none⟩, []⟩]
def r68_9 : List XLine := [⟨⟨.mv (.slot 13), some 86, none⟩, []⟩,
  ⟨⟨.mv (.slot 86), some 10, none⟩, []⟩,
  ⟨⟨.mv (.const (.bool true)), some 11, none⟩, []⟩]
def r68_10 : List XLine := [⟨⟨.mv (.slot 0), some 87, none⟩, []⟩,
  ⟨⟨.mv (.slot 12), some 88, none⟩, []⟩,
  ⟨⟨.mv (.slot 0), some 89, none⟩, []⟩,
  ⟨⟨.mv (.slot 13), some 90, none⟩, []⟩,
  ⟨⟨.mv (.slot 0), some 91, none⟩, []⟩,
  ⟨⟨.mv (.slot 13), some 92, none⟩, []⟩,
  ⟨⟨.iaddr 1 (.slot 91) (.slot 92), some 93, none⟩, []⟩,
  ⟨⟨.load false 1 (.slot 93), some 94, none⟩, []⟩,
  ⟨⟨.mv (.slot 0), some 95, none⟩, []⟩,
  ⟨⟨.mv (.slot 12), some 96, none⟩, []⟩,
  ⟨⟨.iaddr 1 (.slot 95) (.slot 96), some 97, none⟩, []⟩,
  ⟨⟨.load false 1 (.slot 97), some 98, none⟩, []⟩,
  ⟨⟨.iaddr 1 (.slot 87) (.slot 88), some 99, none⟩, []⟩,
  ⟨⟨.store 1 (.slot 99) (.slot 94), none, none⟩, []⟩,
  ⟨⟨.iaddr 1 (.slot 89) (.slot 90), some 100, none⟩, []⟩,
  ⟨⟨.store 1 (.slot 100) (.slot 98), none, none⟩, []⟩]
def r68_11 : List XLine := [⟨⟨.mv (.slot 12), some 101, none⟩, []⟩,
  ⟨⟨.bin .add 3 .num (.slot 101) (.const (.int .i64 (.ofNat 1))), some 102, none⟩, []⟩,
  ⟨⟨.mv (.slot 102), some 12, none⟩, []⟩]
def r68_12 : List XLine := [⟨⟨.mv (.slot 13), some 103, none⟩, []⟩,
  ⟨⟨.bin .sub 3 .num (.slot 103) (.const (.int .i64 (.ofNat 1))), some 104, none⟩, []⟩,
  ⟨⟨.mv (.slot 104), some 13, none⟩, []⟩]
def r68_13 : List XLine := [⟨⟨.mv (.slot 12), some 105, none⟩, []⟩,
  ⟨⟨.mv (.slot 13), some 106, none⟩, []⟩,
  ⟨⟨.bin .leq 3 .num (.slot 105) (.slot 106), some 107, none⟩, []⟩,
  ⟨⟨.mv (.slot 107), some 108, none⟩, []⟩,
  ⟨⟨.mv (.slot 4), some 109, some (108, true)⟩, []⟩,
  ⟨⟨.mv (.slot 0), some 110, some (108, true)⟩, []⟩,
  ⟨⟨.mv (.slot 12), some 111, some (108, true)⟩, []⟩,
  ⟨⟨.iaddr 1 (.slot 110) (.slot 111), some 112, some (108, true)⟩, []⟩,
  ⟨⟨.load false 1 (.slot 112), some 113, some (108, true)⟩, []⟩,
  ⟨⟨.mv (.slot 0), some 114, some (108, true)⟩, []⟩,
  ⟨⟨.mv (.slot 1), some 115, some (108, true)⟩, []⟩,
  ⟨⟨.iaddr 1 (.slot 114) (.slot 115), some 116, some (108, true)⟩, []⟩,
  ⟨⟨.load false 1 (.slot 116), some 117, some (108, true)⟩, []⟩,
  ⟨⟨.call (.slot 109) [(.slot 113), (.slot 117)], some 118, some (108, true)⟩, []⟩,
  ⟨⟨.bin .lss 3 .num (.slot 118) (.const (.int .i64 (.ofNat 0))), some 119, some (108, true)⟩, []⟩,
  ⟨⟨.pick (.slot 108) (.slot 119) (.const (.bool false)), some 120, none⟩, []⟩]
def r68_14 : List XLine := [⟨⟨.mv (.slot 12), some 121, none⟩, []⟩,
  ⟨⟨.bin .add 3 .num (.slot 121) (.const (.int .i64 (.ofNat 1))), some 122, none⟩, []⟩,
  ⟨⟨.mv (.slot 122), some 12, none⟩, []⟩]
def r68_15 : List XLine := [⟨⟨.mv (.slot 12), some 123, none⟩, []⟩,
  ⟨⟨.mv (.slot 13), some 124, none⟩, []⟩,
  ⟨⟨.bin .leq 3 .num (.slot 123) (.slot 124), some 125, none⟩, []⟩,
  ⟨⟨.mv (.slot 125), some 126, none⟩, []⟩,
  ⟨⟨.mv (.slot 4), some 127, some (126, true)⟩, []⟩,
  ⟨⟨.mv (.slot 0), some 128, some (126, true)⟩, []⟩,
  ⟨⟨.mv (.slot 13), some 129, some (126, true)⟩, []⟩,
  ⟨⟨.iaddr 1 (.slot 128) (.slot 129), some 130, some (126, true)⟩, []⟩,
  ⟨⟨.load false 1 (.slot 130), some 131, some (126, true)⟩, []⟩,
  ⟨⟨.mv (.slot 0), some 132, some (126, true)⟩, []⟩,
  ⟨⟨.mv (.slot 1), some 133, some (126, true)⟩, []⟩,
  ⟨⟨.iaddr 1 (.slot 132) (.slot 133), some 134, some (126, true)⟩, []⟩,
  ⟨⟨.load false 1 (.slot 134), some 135, some (126, true)⟩, []⟩,
  ⟨⟨.call (.slot 127) [(.slot 131), (.slot 135)], some 136, some (126, true)⟩, []⟩,
  ⟨⟨.bin .lss 3 .num (.slot 136) (.const (.int .i64 (.ofNat 0))), some 137, some (126, true)⟩, []⟩,
  ⟨⟨.un .not (.slot 137), some 138, some (126, true)⟩, []⟩,
  ⟨⟨.pick (.slot 126) (.slot 138) (.const (.bool false)), some 139, none⟩, []⟩]
def r68_16 : List XLine := [⟨⟨.mv (.slot 13), some 140, none⟩, []⟩,
  ⟨⟨.bin .sub 3 .num (.slot 140) (.const (.int .i64 (.ofNat 1))), some 141, none⟩, []⟩,
  ⟨⟨.mv (.slot 141), some 13, none⟩, []⟩]
def r68_17 : List XLine := [⟨⟨.mv (.slot 12), some 142, none⟩, []⟩,
  ⟨⟨.mv (.slot 13), some 143, none⟩, []⟩,
  ⟨⟨.bin .gtr 3 .num (.slot 142) (.slot 143), some 144, none⟩, []⟩]
def r68_18 : List XLine := [⟨⟨.mv (.slot 0), some 145, none⟩, []⟩,
  ⟨⟨.mv (.slot 12), some 146, none⟩, []⟩,
  ⟨⟨.mv (.slot 0), some 147, none⟩, []⟩,
  ⟨⟨.mv (.slot 13), some 148, none⟩, []⟩,
  ⟨⟨.mv (.slot 0), some 149, none⟩, []⟩,
  ⟨⟨.mv (.slot 13), some 150, none⟩, []⟩,
  ⟨⟨.iaddr 1 (.slot 149) (.slot 150), some 151, none⟩, []⟩,
  ⟨⟨.load false 1 (.slot 151), some 152, none⟩, []⟩,
  ⟨⟨.mv (.slot 0), some 153, none⟩, []⟩,
  ⟨⟨.mv (.slot 12), some 154, none⟩, []⟩,
  ⟨⟨.iaddr 1 (.slot 153) (.slot 154), some 155, none⟩, []⟩,
  ⟨⟨.load false 1 (.slot 155), some 156, none⟩, []⟩,
  ⟨⟨.iaddr 1 (.slot 145) (.slot 146), some 157, none⟩, []⟩,
  ⟨⟨.store 1 (.slot 157) (.slot 152), none, none⟩, []⟩,
  ⟨⟨.iaddr 1 (.slot 147) (.slot 148), some 158, none⟩, []⟩,
  ⟨⟨.store 1 (.slot 158) (.slot 156), none, none⟩, []⟩]
def r68_19 : List XLine := [⟨⟨.mv (.slot 12), some 159, none⟩, []⟩,
  ⟨⟨.bin .add 3 .num (.slot 159) (.const (.int .i64 (.ofNat 1))), some 160, none⟩, []⟩,
  ⟨⟨.mv (.slot 160), some 12, none⟩, []⟩]
def r68_20 : List XLine := [⟨⟨.mv (.slot 13), some 161, none⟩, []⟩,
  ⟨⟨.bin .sub 3 .num (.slot 161) (.const (.int .i64 (.ofNat 1))), some 162, none⟩, []⟩,
  ⟨⟨.mv (.slot 162), some 13, none⟩, []⟩]
def r68_21 : List XLine := [⟨⟨.mv (.slot 0), some 163, none⟩, []⟩,
  ⟨⟨.mv (.slot 13), some 164, none⟩, []⟩,
  ⟨⟨.mv (.slot 0), some 165, none⟩, []⟩,
  ⟨⟨.mv (.slot 1), some 166, none⟩, []⟩,
  ⟨⟨.mv (.slot 0), some 167, none⟩, []⟩,
  ⟨⟨.mv (.slot 1), some 168, none⟩, []⟩,
  ⟨⟨.iaddr 1 (.slot 167) (.slot 168), some 169, none⟩, []⟩,
  ⟨⟨.load false 1 (.slot 169), some 170, none⟩, []⟩,
  ⟨⟨.mv (.slot 0), some 171, none⟩, []⟩,
  ⟨⟨.mv (.slot 13), some 172, none⟩, []⟩,
  ⟨⟨.iaddr 1 (.slot 171) (.slot 172), some 173, none⟩, []⟩,
  ⟨⟨.load false 1 (.slot 173), some 174, none⟩, []⟩,
  ⟨⟨.iaddr 1 (.slot 163) (.slot 164), some 175, none⟩, []⟩,
  ⟨⟨.store 1 (.slot 175) (.slot 170), none, none⟩, []⟩,
  ⟨⟨.iaddr 1 (.slot 165) (.slot 166), some 176, none⟩, []⟩,
  ⟨⟨.store 1 (.slot 176) (.slot 174), none, none⟩, []⟩]
def r68_22 : List XLine := [⟨⟨.mv (.slot 13), some 177, none⟩, []⟩,
  ⟨⟨.mv (.slot 177), some 10, none⟩, []⟩,
  ⟨⟨.mv (.const (.bool false)), some 11, none⟩, []⟩]
def xf68 : XFunc := ⟨(.seq (.region false r68_0)
  (.seq (.region true r68_1)
  (.seq (.region false r68_2)
  (.seq (.block 0 (.loop (.seq (.seq (.region true r68_3)
  (.cond (.slot 47)
  .skip
  (.exit 0)))
  (.block 1 (.region false r68_4)))))
  (.seq (.block 2 (.loop (.seq (.seq (.region true r68_5)
  (.cond (.slot 66)
  .skip
  (.exit 2)))
  (.block 3 (.region false r68_6)))))
  (.seq (.seq (.region false r68_7)
  (.cond (.slot 71)
  (.seq (.region true r68_8)
  (.seq (.region false r68_9)
  .ret))
  .skip))
  (.seq (.region true r68_10)
  (.seq (.region false r68_11)
  (.seq (.region false r68_12)
  (.seq (.block 4 (.loop (.block 5 (.seq (.block 6 (.loop (.seq (.seq (.region true r68_13)
  (.cond (.slot 120)
  .skip
  (.exit 6)))
  (.block 7 (.region false r68_14)))))
  (.seq (.block 8 (.loop (.seq (.seq (.region true r68_15)
  (.cond (.slot 139)
  .skip
  (.exit 8)))
  (.block 9 (.region false r68_16)))))
  (.seq (.seq (.region false r68_17)
  (.cond (.slot 144)
  (.exit 4)
  .skip))
  (.seq (.region true r68_18)
  (.seq (.region false r68_19)
  (.region false r68_20)))))))))
  (.seq (.region true r68_21)
  (.seq (.region false r68_22)
  .ret)))))))))))),
  [.tmp 10, .tmp 11]⟩
theorem xf68_ok : compFunc Try.prog Try.f68 = some xf68 := by kernel_rfl
/- math/bits.Len32 -/
def r69_0 : List XLine := [⟨⟨.mv (.const (.int .i64 (.ofNat 0))), some 2, none⟩, []⟩]
def r69_1 : List XLine := [⟨⟨.mv (.slot 0), some 3, none⟩, []⟩,
  ⟨⟨.bin .geq 121 .num (.slot 3) (.const (.int .u32 (.ofNat 65536))), some 4, none⟩, []⟩]
def r69_2 : List XLine := [⟨⟨.mv (.slot 0), some 5, none⟩, []⟩,
  ⟨⟨.bin .shr 121 .num (.slot 5) (.const (.int .u64 (.ofNat 16))), some 6, none⟩, []⟩,
  ⟨⟨.mv (.slot 6), some 0, none⟩, []⟩]
def r69_3 : List XLine := [⟨⟨.mv (.const (.int .i64 (.ofNat 16))), some 2, none⟩, []⟩]
def r69_4 : List XLine := [⟨⟨.mv (.slot 0), some 7, none⟩, []⟩,
  ⟨⟨.bin .geq 121 .num (.slot 7) (.const (.int .u32 (.ofNat 256))), some 8, none⟩, []⟩]
def r69_5 : List XLine := [⟨⟨.mv (.slot 0), some 9, none⟩, []⟩,
  ⟨⟨.bin .shr 121 .num (.slot 9) (.const (.int .u64 (.ofNat 8))), some 10, none⟩, []⟩,
  ⟨⟨.mv (.slot 10), some 0, none⟩, []⟩]
def r69_6 : List XLine := [⟨⟨.mv (.slot 2), some 11, none⟩, []⟩,
  ⟨⟨.bin .add 3 .num (.slot 11) (.const (.int .i64 (.ofNat 8))), some 12, none⟩, []⟩,
  ⟨⟨.mv (.slot 12), some 2, none⟩, []⟩]
def r69_7 : List XLine := [⟨⟨.mv (.slot 2), some 13, none⟩, []⟩,
  ⟨⟨.mv (.slot 0), some 14, none⟩, []⟩,
  ⟨⟨.conv .u8 (.slot 14), some 15, none⟩, []⟩,
  ⟨⟨.sidx (.const (.str ⟨⟨[0, 1, 2, 2, 3, 3, 3, 3, 4, 4, 4, 4, 4, 4, 4, 4, 5, 5, 5, 5, 5, 5, 5, 5, 5, 5, 5, 5, 5, 5, 5, 5, 6, 6, 6, 6, 6, 6, 6, 6, 6, 6, 6, 6, 6, 6, 6, 6, 6, 6, 6, 6, 6, 6, 6, 6, 6, 6, 6, 6, 6, 6, 6, 6, 7, 7, 7, 7, 7, 7, 7, 7, 7, 7, 7, 7, 7, 7, 7, 7, 7, 7, 7, 7, 7, 7, 7, 7, 7, 7, 7, 7, 7, 7, 7, 7, 7, 7, 7, 7, 7, 7, 7, 7, 7, 7, 7, 7, 7, 7, 7, 7, 7, 7, 7, 7, 7, 7, 7, 7, 7, 7, 7, 7, 7, 7, 7, 7, 8, 8, 8, 8, 8, 8, 8, 8, 8, 8, 8, 8, 8, 8, 8, 8, 8, 8, 8, 8, 8, 8, 8, 8, 8, 8, 8, 8, 8, 8, 8, 8, 8, 8, 8, 8, 8, 8, 8, 8, 8, 8, 8, 8, 8, 8, 8, 8, 8, 8, 8, 8, 8, 8, 8, 8, 8, 8, 8, 8, 8, 8, 8, 8, 8, 8, 8, 8, 8, 8, 8, 8, 8, 8, 8, 8, 8, 8, 8, 8, 8, 8, 8, 8, 8, 8, 8, 8, 8, 8, 8, 8, 8, 8, 8, 8, 8, 8, 8, 8, 8, 8, 8, 8, 8, 8, 8, 8, 8, 8, 8, 8, 8, 8, 8, 8, 8, 8, 8, 8, 8, 8, 8, 8, 8, 8, 8, 8]⟩⟩)) (.slot 15), some 16, none⟩, []⟩,
  ⟨⟨.conv .i64 (.slot 16), some 17, none⟩, []⟩,
  ⟨⟨.bin .add 3 .num (.slot 13) (.slot 17), some 18, none⟩, []⟩,
  ⟨⟨.mv (.slot 18), some 2, none⟩, []⟩]
def xf69 : XFunc := ⟨(.seq (.region false r69_0)
  (.seq (.seq (.region false r69_1)
  (.cond (.slot 4)
  (.seq (.region false r69_2)
  (.region false r69_3))
  .skip))
  (.seq (.seq (.region false r69_4)
  (.cond (.slot 8)
  (.seq (.region false r69_5)
  (.region false r69_6))
  .skip))
  (.seq (.region false r69_7)
  .ret)))),
  [.tmp 2]⟩
theorem xf69_ok : compFunc Try.prog Try.f69 = some xf69 := by kernel_rfl
/- math/bits.Len64 -/
def r70_0 : List XLine := [⟨⟨.mv (.const (.int .i64 (.ofNat 0))), some 2, none⟩, []⟩]
def r70_1 : List XLine := [⟨⟨.mv (.slot 0), some 3, none⟩, []⟩,
  ⟨⟨.bin .geq 123 .num (.slot 3) (.const (.int .u64 (.ofNat 4294967296))), some 4, none⟩, []⟩]
def r70_2 : List XLine := [⟨⟨.mv (.slot 0), some 5, none⟩, []⟩,
  ⟨⟨.bin .shr 123 .num (.slot 5) (.const (.int .u64 (.ofNat 32))), some 6, none⟩, []⟩,
  ⟨⟨.mv (.slot 6), some 0, none⟩, []⟩]
def r70_3 : List XLine := [⟨⟨.mv (.const (.int .i64 (.ofNat 32))), some 2, none⟩, []⟩]
def r70_4 : List XLine := [⟨⟨.mv (.slot 0), some 7, none⟩, []⟩,
  ⟨⟨.bin .geq 123 .num (.slot 7) (.const (.int .u64 (.ofNat 65536))), some 8, none⟩, []⟩]
def r70_5 : List XLine := [⟨⟨.mv (.slot 0), some 9, none⟩, []⟩,
  ⟨⟨.bin .shr 123 .num (.slot 9) (.const (.int .u64 (.ofNat 16))), some 10, none⟩, []⟩,
  ⟨⟨.mv (.slot 10), some 0, none⟩, []⟩]
def r70_6 : List XLine := [⟨⟨.mv (.slot 2), some 11, none⟩, []⟩,
  ⟨⟨.bin .add 3 .num (.slot 11) (.const (.int .i64 (.ofNat 16))), some 12, none⟩, []⟩,
  ⟨⟨.mv (.slot 12), some 2, none⟩, []⟩]
def r70_7 : List XLine := [⟨⟨.mv (.slot 0), some 13, none⟩, []⟩,
  ⟨⟨.bin .geq 123 .num (.slot 13) (.const (.int .u64 (.ofNat 256))), some 14, none⟩, []⟩]
def r70_8 : List XLine := [⟨⟨.mv (.slot 0), some 15, none⟩, []⟩,
  ⟨⟨.bin .shr 123 .num (.slot 15) (.const (.int .u64 (.ofNat 8))), some 16, none⟩, []⟩,
  ⟨⟨.mv (.slot 16), some 0, none⟩, []⟩]
def r70_9 : List XLine := [⟨⟨.mv (.slot 2), some 17, none⟩, []⟩,
  ⟨⟨.bin .add 3 .num (.slot 17) (.const (.int .i64 (.ofNat 8))), some 18, none⟩, []⟩,
  ⟨⟨.mv (.slot 18), some 2, none⟩, []⟩]
def r70_10 : List XLine := [⟨⟨.mv (.slot 2), some 19, none⟩, []⟩,
  ⟨⟨.mv (.slot 0), some 20, none⟩, []⟩,
  ⟨⟨.conv .u8 (.slot 20), some 21, none⟩, []⟩,
  ⟨⟨.sidx (.const (.str ⟨⟨[0, 1, 2, 2, 3, 3, 3, 3, 4, 4, 4, 4, 4, 4, 4, 4, 5, 5, 5, 5, 5, 5, 5, 5, 5, 5, 5, 5, 5, 5, 5, 5, 6, 6, 6, 6, 6, 6, 6, 6, 6, 6, 6, 6, 6, 6, 6, 6, 6, 6, 6, 6, 6, 6, 6, 6, 6, 6, 6, 6, 6, 6, 6, 6, 7, 7, 7, 7, 7, 7, 7, 7, 7, 7, 7, 7, 7, 7, 7, 7, 7, 7, 7, 7, 7, 7, 7, 7, 7, 7, 7, 7, 7, 7, 7, 7, 7, 7, 7, 7, 7, 7, 7, 7, 7, 7, 7, 7, 7, 7, 7, 7, 7, 7, 7, 7, 7, 7, 7, 7, 7, 7, 7, 7, 7, 7, 7, 7, 8, 8, 8, 8, 8, 8, 8, 8, 8, 8, 8, 8, 8, 8, 8, 8, 8, 8, 8, 8, 8, 8, 8, 8, 8, 8, 8, 8, 8, 8, 8, 8, 8, 8, 8, 8, 8, 8, 8, 8, 8, 8, 8, 8, 8, 8, 8, 8, 8, 8, 8, 8, 8, 8, 8, 8, 8, 8, 8, 8, 8, 8, 8, 8, 8, 8, 8, 8, 8, 8, 8, 8, 8, 8, 8, 8, 8, 8, 8, 8, 8, 8, 8, 8, 8, 8, 8, 8, 8, 8, 8, 8, 8, 8, 8, 8, 8, 8, 8, 8, 8, 8, 8, 8, 8, 8, 8, 8, 8, 8, 8, 8, 8, 8, 8, 8, 8, 8, 8, 8, 8, 8, 8, 8, 8, 8, 8, 8]⟩⟩)) (.slot 21), some 22, none⟩, []⟩,
  ⟨⟨.conv .i64 (.slot 22), some 23, none⟩, []⟩,
  ⟨⟨.bin .add 3 .num (.slot 19) (.slot 23), some 24, none⟩, []⟩,
  ⟨⟨.mv (.slot 24), some 2, none⟩, []⟩]
def xf70 : XFunc := ⟨(.seq (.region false r70_0)
  (.seq (.seq (.region false r70_1)
  (.cond (.slot 4)
  (.seq (.region false r70_2)
  (.region false r70_3))
  .skip))
  (.seq (.seq (.region false r70_4)
  (.cond (.slot 8)
  (.seq (.region false r70_5)
  (.region false r70_6))
  .skip))
  (.seq (.seq (.region false r70_7)
  (.cond (.slot 14)
  (.seq (.region false r70_8)
  (.region false r70_9))
  .skip))
  (.seq (.region false r70_10)
  .ret))))),
  [.tmp 2]⟩
theorem xf70_ok : compFunc Try.prog Try.f70 = some xf70 := by kernel_rfl
/- cmp.isNaN[int] -/
def r71_0 : List XLine := [⟨⟨.mv (.const (.bool false)), some 2, none⟩, []⟩]
def r71_1 : List XLine := [⟨⟨.mv (.slot 0), some 3, none⟩, []⟩,
  ⟨⟨.mv (.slot 0), some 4, none⟩, []⟩,
  ⟨⟨.bin .neq 3 .num (.slot 3) (.slot 4), some 5, none⟩, []⟩,
  ⟨⟨.mv (.slot 5), some 2, none⟩, []⟩]
def xf71 : XFunc := ⟨(.seq (.region false r71_0)
  (.seq (.region false r71_1)
  .ret)),
  [.tmp 2]⟩
theorem xf71_ok : compFunc Try.prog Try.f71 = some xf71 := by kernel_rfl
/- cmp.isNaN[threshing/api.Lit] -/
def r72_0 : List XLine := [⟨⟨.mv (.const (.bool false)), some 2, none⟩, []⟩]
def r72_1 : List XLine := [⟨⟨.mv (.slot 0), some 3, none⟩, []⟩,
  ⟨⟨.mv (.slot 0), some 4, none⟩, []⟩,
  ⟨⟨.bin .neq 24 .num (.slot 3) (.slot 4), some 5, none⟩, []⟩,
  ⟨⟨.mv (.slot 5), some 2, none⟩, []⟩]
def xf72 : XFunc := ⟨(.seq (.region false r72_0)
  (.seq (.region false r72_1)
  .ret)),
  [.tmp 2]⟩
theorem xf72_ok : compFunc Try.prog Try.f72 = some xf72 := by kernel_rfl
/- (threshing/blocked.form).harmless$1 -/
def r73_0 : List XLine := [⟨⟨.mv (.const (.bool false)), some 4, none⟩, []⟩]
def r73_1 : List XLine := [⟨⟨.mv (.slot 0), some 5, none⟩, []⟩,
  ⟨⟨.load false 1 (.slot 1), some 6, none⟩, []⟩,
  ⟨⟨.un .neg (.slot 6), some 7, none⟩, []⟩,
  ⟨⟨.bin .neq 24 .num (.slot 5) (.slot 7), some 8, none⟩, []⟩,
  ⟨⟨.mv (.slot 8), some 9, none⟩, []⟩,
  ⟨⟨.faddr 2 (.slot 2), some 10, some (9, true)⟩, []⟩,
  ⟨⟨.load false 1 (.slot 10), some 11, some (9, true)⟩, []⟩,
  ⟨⟨.mv (.slot 0), some 12, some (9, true)⟩, []⟩,
  ⟨⟨.un .neg (.slot 12), some 13, some (9, true)⟩, []⟩,
  ⟨⟨.call (.const (.func 51 [] [])) [(.slot 11), (.slot 13)], some 14, some (9, true)⟩, []⟩,
  ⟨⟨.pick (.slot 9) (.slot 14) (.const (.bool false)), some 15, none⟩, []⟩,
  ⟨⟨.mv (.slot 15), some 4, none⟩, []⟩]
def xf73 : XFunc := ⟨(.seq (.region false r73_0)
  (.seq (.region false r73_1)
  .ret)),
  [.tmp 4]⟩
theorem xf73_ok : compFunc Try.prog Try.f73 = some xf73 := by kernel_rfl
/- maps.Keys[map[int64]bool,int64,bool] -/
def r74_0 : List XLine := [⟨⟨.box (.slot 0), some 1, none⟩, []⟩,
  ⟨⟨.mv (.const .nilf), some 2, none⟩, []⟩]
def r74_1 : List XLine := [⟨⟨.mkfunc 92 [] [(.slot 1)], some 3, none⟩, []⟩,
  ⟨⟨.mv (.slot 3), some 2, none⟩, []⟩]
def xf74 : XFunc := ⟨(.seq (.region false r74_0)
  (.seq (.region false r74_1)
  .ret)),
  [.tmp 2]⟩
theorem xf74_ok : compFunc Try.prog Try.f74 = some xf74 := by kernel_rfl
/- slices.Index[threshing/api.Clause,threshing/api.Lit] -/
def r75_0 : List XLine := [⟨⟨.mv (.const (.int .i64 (.ofNat 0))), some 4, none⟩, []⟩]
def r75_1 : List XLine := [⟨⟨.mv (.slot 0), some 6, none⟩, []⟩,
  ⟨⟨.len .slice (.slot 6), some 7, none⟩, []⟩,
  ⟨⟨.mv (.const (.int .i64 (.ofNat 0))), some 8, none⟩, []⟩]
def r75_2 : List XLine := [⟨⟨.bin .lss 3 .num (.slot 8) (.slot 7), some 9, none⟩, []⟩]
def r75_3 : List XLine := [⟨⟨.mv (.slot 8), some 10, none⟩, []⟩,
  ⟨⟨.mv (.slot 10), some 5, none⟩, []⟩]
def r75_4 : List XLine := [⟨⟨.mv (.slot 1), some 11, none⟩, []⟩,
  ⟨⟨.mv (.slot 0), some 12, none⟩, []⟩,
  ⟨⟨.mv (.slot 5), some 13, none⟩, []⟩,
  ⟨⟨.iaddr 1 (.slot 12) (.slot 13), some 14, none⟩, []⟩,
  ⟨⟨.load false 1 (.slot 14), some 15, none⟩, []⟩,
  ⟨⟨.bin .eql 24 .num (.slot 11) (.slot 15), some 16, none⟩, []⟩]
def r75_5 : List XLine := [⟨⟨.mv (.slot 5), some 17, none⟩, []⟩,
  ⟨⟨.mv (.slot 17), some 4, none⟩, []⟩]
def r75_6 : List XLine := [⟨⟨.bin .add 3 .num (.slot 8) (.const (.int .i64 (.ofNat 1))), some 18, none⟩, []⟩,
  ⟨⟨.mv (.slot 18), some 8, none⟩, []⟩]
def r75_7 : List XLine := [⟨⟨.mv (.const (.int .i64 (.negSucc 0))), some 4, none⟩, []⟩]
def xf75 : XFunc := ⟨(.seq (.region false r75_0)
  (.seq (.seq (.region false r75_1)
  (.block 0 (.loop (.seq (.region false r75_2)
  (.seq (.cond (.slot 9)
  .skip
  (.exit 0))
  (.seq (.block 1 (.seq (.region false r75_3)
  (.seq (.region false r75_4)
  (.cond (.slot 16)
  (.seq (.region false r75_5)
  .ret)
  .skip))))
  (.region false r75_6)))))))
  (.seq (.region false r75_7)
  .ret))),
  [.tmp 4]⟩
theorem xf75_ok : compFunc Try.prog Try.f75 = some xf75 := by kernel_rfl
/- threshing/base.both$1 -/
def r76_0 : List XLine := [⟨⟨.mv (.const (.bool false)), some 3, none⟩, []⟩]
def r76_1 : List XLine := [⟨⟨.mv (.slot 0), some 4, none⟩, []⟩,
  ⟨⟨.bin .gtr 24 .num (.slot 4) (.const (.int .i32 (.ofNat 0))), some 5, none⟩, []⟩,
  ⟨⟨.mv (.slot 5), some 6, none⟩, []⟩,
  ⟨⟨.load false 1 (.slot 1), some 7, some (6, true)⟩, []⟩,
  ⟨⟨.mv (.slot 0), some 8, some (6, true)⟩, []⟩,
  ⟨⟨.un .neg (.slot 8), some 9, some (6, true)⟩, []⟩,
  ⟨⟨.call (.const (.func 51 [] [])) [(.slot 7), (.slot 9)], some 10, some (6, true)⟩, []⟩,
  ⟨⟨.pick (.slot 6) (.slot 10) (.const (.bool false)), some 11, none⟩, []⟩,
  ⟨⟨.mv (.slot 11), some 3, none⟩, []⟩]
def xf76 : XFunc := ⟨(.seq (.region false r76_0)
  (.seq (.region false r76_1)
  .ret)),
  [.tmp 3]⟩
theorem xf76_ok : compFunc Try.prog Try.f76 = some xf76 := by kernel_rfl
/- threshing/cnf.Subsumes$1 -/
def r77_0 : List XLine := [⟨⟨.mv (.const (.bool false)), some 3, none⟩, []⟩]
def r77_1 : List XLine := [⟨⟨.load false 1 (.slot 1), some 4, none⟩, []⟩,
  ⟨⟨.mv (.slot 0), some 5, none⟩, []⟩,
  ⟨⟨.call (.const (.func 51 [] [])) [(.slot 4), (.slot 5)], some 6, none⟩, []⟩,
  ⟨⟨.un .not (.slot 6), some 7, none⟩, []⟩,
  ⟨⟨.mv (.slot 7), some 3, none⟩, []⟩]
def xf77 : XFunc := ⟨(.seq (.region false r77_0)
  (.seq (.region false r77_1)
  .ret)),
  [.tmp 3]⟩
theorem xf77_ok : compFunc Try.prog Try.f77 = some xf77 := by kernel_rfl
/- slices.insertionSortOrdered[int64] -/
def r78_0 : List XLine := [⟨⟨.mv (.slot 1), some 8, none⟩, []⟩,
  ⟨⟨.bin .add 3 .num (.slot 8) (.const (.int .i64 (.ofNat 1))), some 9, none⟩, []⟩,
  ⟨⟨.mv (.slot 9), some 6, none⟩, []⟩]
def r78_1 : List XLine := [⟨⟨.mv (.slot 6), some 10, none⟩, []⟩,
  ⟨⟨.mv (.slot 2), some 11, none⟩, []⟩,
  ⟨⟨.bin .lss 3 .num (.slot 10) (.slot 11), some 12, none⟩, []⟩]
def r78_2 : List XLine := [⟨⟨.mv (.slot 6), some 15, none⟩, []⟩,
  ⟨⟨.mv (.slot 15), some 7, none⟩, []⟩]
def r78_3 : List XLine := [⟨⟨.mv (.slot 7), some 16, none⟩, []⟩,
  ⟨⟨.mv (.slot 1), some 17, none⟩, []⟩,
  ⟨⟨.bin .gtr 3 .num (.slot 16) (.slot 17), some 18, none⟩, []⟩,
  ⟨⟨.mv (.slot 18), some 19, none⟩, []⟩,
  ⟨⟨.mv (.slot 0), some 20, some (19, true)⟩, []⟩,
  ⟨⟨.mv (.slot 7), some 21, some (19, true)⟩, []⟩,
  ⟨⟨.iaddr 1 (.slot 20) (.slot 21), some 22, some (19, true)⟩, []⟩,
  ⟨⟨.load false 1 (.slot 22), some 23, some (19, true)⟩, []⟩,
  ⟨⟨.mv (.slot 0), some 24, some (19, true)⟩, []⟩,
  ⟨⟨.mv (.slot 7), some 25, some (19, true)⟩, []⟩,
  ⟨⟨.bin .sub 3 .num (.slot 25) (.const (.int .i64 (.ofNat 1))), some 26, some (19, true)⟩, []⟩,
  ⟨⟨.iaddr 1 (.slot 24) (.slot 26), some 27, some (19, true)⟩, []⟩,
  ⟨⟨.load false 1 (.slot 27), some 28, some (19, true)⟩, []⟩,
  ⟨⟨.call (.const (.func 84 [] [])) [(.slot 23), (.slot 28)], some 29, some (19, true)⟩, []⟩,
  ⟨⟨.pick (.slot 19) (.slot 29) (.const (.bool false)), some 30, none⟩, []⟩]
def r78_4 : List XLine := [⟨⟨.mv (.slot 0), some 33, none⟩, []⟩,
  ⟨⟨.mv (.slot 7), some 34, none⟩, []⟩,
  ⟨⟨.mv (.slot 0), some 35, none⟩, []⟩,
  ⟨⟨.mv (.slot 7), some 36, none⟩, []⟩,
  ⟨⟨.bin .sub 3 .num (.slot 36) (.const (.int .i64 (.ofNat 1))), some 37, none⟩, []⟩,
  ⟨⟨.mv (.slot 0), some 38, none⟩, []⟩,
  ⟨⟨.mv (.slot 7), some 39, none⟩, []⟩,
  ⟨⟨.bin .sub 3 .num (.slot 39) (.const (.int .i64 (.ofNat 1))), some 40, none⟩, []⟩,
  ⟨⟨.iaddr 1 (.slot 38) (.slot 40), some 41, none⟩, []⟩,
  ⟨⟨.load false 1 (.slot 41), some 42, none⟩, []⟩,
  ⟨⟨.mv (.slot 0), some 43, none⟩, []⟩,
  ⟨⟨.mv (.slot 7), some 44, none⟩, []⟩,
  ⟨⟨.iaddr 1 (.slot 43) (.slot 44), some 45, none⟩, []⟩,
  ⟨⟨.load false 1 (.slot 45), some 46, none⟩, []⟩,
  ⟨⟨.iaddr 1 (.slot 33) (.slot 34), some 47, none⟩, []⟩,
  ⟨⟨.store 1 (.slot 47) (.slot 42), none, none⟩, []⟩,
  ⟨⟨.iaddr 1 (.slot 35) (.slot 37), some 48, none⟩, []⟩,
  ⟨⟨.store 1 (.slot 48) (.slot 46), none, none⟩, []⟩]
def r78_5 : List XLine := [⟨⟨.mv (.slot 7), some 31, none⟩, []⟩,
  ⟨⟨.bin .sub 3 .num (.slot 31) (.const (.int .i64 (.ofNat 1))), some 32, none⟩, []⟩,
  ⟨⟨.mv (.slot 32), some 7, none⟩, []⟩]
def r78_6 : List XLine := [⟨⟨.mv (.slot 6), some 13, none⟩, []⟩,
  ⟨⟨.bin .add 3 .num (.slot 13) (.const (.int .i64 (.ofNat 1))), some 14, none⟩, []⟩,
  ⟨⟨.mv (.slot 14), some 6, none⟩, []⟩]
def xf78 : XFunc := ⟨(.seq (.region false r78_0)
  (.block 0 (.loop (.seq (.seq (.region false r78_1)
  (.cond (.slot 12)
  .skip
  (.exit 0)))
  (.seq (.block 1 (.seq (.region false r78_2)
  (.block 2 (.loop (.seq (.seq (.region true r78_3)
  (.cond (.slot 30)
  .skip
  (.exit 2)))
  (.seq (.block 3 (.region true r78_4))
  (.region false r78_5)))))))
  (.region false r78_6)))))),
  []⟩
theorem xf78_ok : compFunc Try.prog Try.f78 = some xf78 := by kernel_rfl
/- slices.heapSortOrdered[int64] -/
def r79_0 : List XLine := [⟨⟨.mv (.slot 1), some 11, none⟩, []⟩,
  ⟨⟨.mv (.slot 11), some 6, none⟩, []⟩]
def r79_1 : List XLine := [⟨⟨.mv (.const (.int .i64 (.ofNat 0))), some 7, none⟩, []⟩]
def r79_2 : List XLine := [⟨⟨.mv (.slot 2), some 12, none⟩, []⟩,
  ⟨⟨.mv (.slot 1), some 13, none⟩, []⟩,
  ⟨⟨.bin .sub 3 .num (.slot 12) (.slot 13), some 14, none⟩, []⟩,
  ⟨⟨.mv (.slot 14), some 8, none⟩, []⟩]
def r79_3 : List XLine := [⟨⟨.mv (.slot 8), some 15, none⟩, []⟩,
  ⟨⟨.bin .sub 3 .num (.slot 15) (.const (.int .i64 (.ofNat 1))), some 16, none⟩, []⟩,
  ⟨⟨.bin .quo 3 .num (.slot 16) (.const (.int .i64 (.ofNat 2))), some 17, none⟩, []⟩,
  ⟨⟨.mv (.slot 17), some 9, none⟩, []⟩]
def r79_4 : List XLine := [⟨⟨.mv (.slot 9), some 18, none⟩, []⟩,
  ⟨⟨.bin .geq 3 .num (.slot 18) (.const (.int .i64 (.ofNat 0))), some 19, none⟩, []⟩]
def r79_5 : List XLine := [⟨⟨.mv (.slot 0), some 22, none⟩, []⟩,
  ⟨⟨.mv (.slot 9), some 23, none⟩, []⟩,
  ⟨⟨.mv (.slot 8), some 24, none⟩, []⟩,
  ⟨⟨.mv (.slot 6), some 25, none⟩, []⟩,
  ⟨⟨.call (.const (.func 93 [] [])) [(.slot 22), (.slot 23), (.slot 24), (.slot 25)], some 26, none⟩, []⟩]
def r79_6 : List XLine := [⟨⟨.mv (.slot 9), some 20, none⟩, []⟩,
  ⟨⟨.bin .sub 3 .num (.slot 20) (.const (.int .i64 (.ofNat 1))), some 21, none⟩, []⟩,
  ⟨⟨.mv (.slot 21), some 9, none⟩, []⟩]
def r79_7 : List XLine := [⟨⟨.mv (.slot 8), some 27, none⟩, []⟩,
  ⟨⟨.bin .sub 3 .num (.slot 27) (.const (.int .i64 (.ofNat 1))), some 28, none⟩, []⟩,
  ⟨⟨.mv (.slot 28), some 10, none⟩, []⟩]
def r79_8 : List XLine := [⟨⟨.mv (.slot 10), some 29, none⟩, []⟩,
  ⟨⟨.bin .geq 3 .num (.slot 29) (.const (.int .i64 (.ofNat 0))), some 30, none⟩, []⟩]
def r79_9 : List XLine := [⟨⟨.mv (.slot 0), some 33, none⟩, []⟩,
  ⟨⟨.mv (.slot 6), some 34, none⟩, []⟩,
  ⟨⟨.mv (.slot 0), some 35, none⟩, []⟩,
  ⟨⟨.mv (.slot 6), some 36, none⟩, []⟩,
  ⟨⟨.mv (.slot 10), some 37, none⟩, []⟩,
  ⟨⟨.bin .add 3 .num (.slot 36) (.slot 37), some 38, none⟩, []⟩,
  ⟨⟨.mv (.slot 0), some 39, none⟩, []⟩,
  ⟨⟨.mv (.slot 6), some 40, none⟩, []⟩,
  ⟨⟨.mv (.slot 10), some 41, none⟩, []⟩,
  ⟨⟨.bin .add 3 .num (.slot 40) (.slot 41), some 42, none⟩, []⟩,
  ⟨⟨.iaddr 1 (.slot 39) (.slot 42), some 43, none⟩, []⟩,
  ⟨⟨.load false 1 (.slot 43), some 44, none⟩, []⟩,
  ⟨⟨.mv (.slot 0), some 45, none⟩, []⟩,
  ⟨⟨.mv (.slot 6), some 46, none⟩, []⟩,
  ⟨⟨.iaddr 1 (.slot 45) (.slot 46), some 47, none⟩, []⟩,
  ⟨⟨.load false 1 (.slot 47), some 48, none⟩, []⟩,
  ⟨⟨.iaddr 1 (.slot 33) (.slot 34), some 49, none⟩, []⟩,
  ⟨⟨.store 1 (.slot 49) (.slot 44), none, none⟩, []⟩,
  ⟨⟨.iaddr 1 (.slot 35) (.slot 38), some 50, none⟩, []⟩,
  ⟨⟨.store 1 (.slot 50) (.slot 48), none, none⟩, []⟩]
def r79_10 : List XLine := [⟨⟨.mv (.slot 0), some 51, none⟩, []⟩,
  ⟨⟨.mv (.slot 7), some 52, none⟩, []⟩,
  ⟨⟨.mv (.slot 10), some 53, none⟩, []⟩,
  ⟨⟨.mv (.slot 6), some 54, none⟩, []⟩,
  ⟨⟨.call (.const (.func 93 [] [])) [(.slot 51), (.slot 52), (.slot 53), (.slot 54)], some 55, none⟩, []⟩]
def r79_11 : List XLine := [⟨⟨.mv (.slot 10), some 31, none⟩, []⟩,
  ⟨⟨.bin .sub 3 .num (.slot 31) (.const (.int .i64 (.ofNat 1))), some 32, none⟩, []⟩,
  ⟨⟨.mv (.slot 32), some 10, none⟩, []⟩]
def xf79 : XFunc := ⟨(.seq (.region false r79_0)
  (.seq (.region false r79_1)
  (.seq (.region false r79_2)
  (.seq (.seq (.region false r79_3)
  (.block 0 (.loop (.seq (.seq (.region false r79_4)
  (.cond (.slot 19)
  .skip
  (.exit 0)))
  (.seq (.block 1 (.region false r79_5))
  (.region false r79_6))))))
  (.seq (.region false r79_7)
  (.block 2 (.loop (.seq (.seq (.region false r79_8)
  (.cond (.slot 30)
  .skip
  (.exit 2)))
  (.seq (.block 3 (.seq (.region true r79_9)
  (.region false r79_10)))
  (.region false r79_11)))))))))),
  []⟩
theorem xf79_ok : compFunc Try.prog Try.f79 = some xf79 := by kernel_rfl
/- slices.breakPatternsOrdered[int64] -/
def r80_0 : List XLine := [⟨⟨.mv (.slot 2), some 11, none⟩, []⟩,
  ⟨⟨.mv (.slot 1), some 12, none⟩, []⟩,
  ⟨⟨.bin .sub 3 .num (.slot 11) (.slot 12), some 13, none⟩, []⟩,
  ⟨⟨.mv (.slot 13), some 6, none⟩, []⟩]
def r80_1 : List XLine := [⟨⟨.mv (.slot 6), some 14, none⟩, []⟩,
  ⟨⟨.bin .geq 3 .num (.slot 14) (.const (.int .i64 (.ofNat 8))), some 15, none⟩, []⟩]
def r80_2 : List XLine := [⟨⟨.mv (.slot 6), some 16, none⟩, []⟩,
  ⟨⟨.conv .u64 (.slot 16), some 17, none⟩, []⟩,
  ⟨⟨.alloc [(.int .u64 (.ofNat 0))], some 7, none⟩, []⟩,
  ⟨⟨.store 1 (.slot 7) (.slot 17), none, none⟩, []⟩]
def r80_3 : List XLine := [⟨⟨.mv (.slot 6), some 18, none⟩, []⟩,
  ⟨⟨.call (.const (.func 88 [] [])) [(.slot 18)], some 19, none⟩, []⟩,
  ⟨⟨.mv (.slot 19), some 8, none⟩, []⟩]
def r80_4 : List XLine := [⟨⟨.mv (.slot 1), some 20, none⟩, []⟩,
  ⟨⟨.mv (.slot 6), some 21, none⟩, []⟩,
  ⟨⟨.bin .quo 3 .num (.slot 21) (.const (.int .i64 (.ofNat 4))), some 22, none⟩, []⟩,
  ⟨⟨.bin .mul 3 .num (.slot 22) (.const (.int .i64 (.ofNat 2))), some 23, none⟩, []⟩,
  ⟨⟨.bin .add 3 .num (.slot 20) (.slot 23), some 24, none⟩, []⟩,
  ⟨⟨.bin .sub 3 .num (.slot 24) (.const (.int .i64 (.ofNat 1))), some 25, none⟩, []⟩,
  ⟨⟨.mv (.slot 25), some 9, none⟩, []⟩]
def r80_5 : List XLine := [⟨⟨.mv (.slot 9), some 26, none⟩, []⟩,
  ⟨⟨.mv (.slot 1), some 27, none⟩, []⟩,
  ⟨⟨.mv (.slot 6), some 28, none⟩, []⟩,
  ⟨⟨.bin .quo 3 .num (.slot 28) (.const (.int .i64 (.ofNat 4))), some 29, none⟩, []⟩,
  ⟨⟨.bin .mul 3 .num (.slot 29) (.const (.int .i64 (.ofNat 2))), some 30, none⟩, []⟩,
  ⟨⟨.bin .add 3 .num (.slot 27) (.slot 30), some 31, none⟩, []⟩,
  ⟨⟨.bin .add 3 .num (.slot 31) (.const (.int .i64 (.ofNat 1))), some 32, none⟩, []⟩,
  ⟨⟨.bin .leq 3 .num (.slot 26) (.slot 32), some 33, none⟩, []⟩]
def r80_6 : List XLine := [⟨⟨.call (.const (.func 89 [] [])) [(.slot 7)], some 36, none⟩, []⟩,
  ⟨⟨.mv (.slot 8), some 37, none⟩, []⟩,
  ⟨⟨.bin .sub 98 .num (.slot 37) (.const (.int .u64 (.ofNat 1))), some 38, none⟩, []⟩,
  ⟨⟨.bin .and 98 .num (.slot 36) (.slot 38), some 39, none⟩, []⟩,
  ⟨⟨.conv .i64 (.slot 39), some 40, none⟩, []⟩,
  ⟨⟨.mv (.slot 40), some 10, none⟩, []⟩]
def r80_7 : List XLine := [⟨⟨.mv (.slot 10), some 41, none⟩, []⟩,
  ⟨⟨.mv (.slot 6), some 42, none⟩, []⟩,
  ⟨⟨.bin .geq 3 .num (.slot 41) (.slot 42), some 43, none⟩, []⟩]
def r80_8 : List XLine := [⟨⟨.mv (.slot 10), some 44, none⟩, []⟩,
  ⟨⟨.mv (.slot 6), some 45, none⟩, []⟩,
  ⟨⟨.bin .sub 3 .num (.slot 44) (.slot 45), some 46, none⟩, []⟩,
  ⟨⟨.mv (.slot 46), some 10, none⟩, []⟩]
def r80_9 : List XLine := [⟨⟨.mv (.slot 0), some 47, none⟩, []⟩,
  ⟨⟨.mv (.slot 9), some 48, none⟩, []⟩,
  ⟨⟨.mv (.slot 0), some 49, none⟩, []⟩,
  ⟨⟨.mv (.slot 1), some 50, none⟩, []⟩,
  ⟨⟨.mv (.slot 10), some 51, none⟩, []⟩,
  ⟨⟨.bin .add 3 .num (.slot 50) (.slot 51), some 52, none⟩, []⟩,
  ⟨⟨.mv (.slot 0), some 53, none⟩, []⟩,
  ⟨⟨.mv (.slot 1), some 54, none⟩, []⟩,
  ⟨⟨.mv (.slot 10), some 55, none⟩, []⟩,
  ⟨⟨.bin .add 3 .num (.slot 54) (.slot 55), some 56, none⟩, []⟩,
  ⟨⟨.iaddr 1 (.slot 53) (.slot 56), some 57, none⟩, []⟩,
  ⟨⟨.load false 1 (.slot 57), some 58, none⟩, []⟩,
  ⟨⟨.mv (.slot 0), some 59, none⟩, []⟩,
  ⟨⟨.mv (.slot 9), some 60, none⟩, []⟩,
  ⟨⟨.iaddr 1 (.slot 59) (.slot 60), some 61, none⟩, []⟩,
  ⟨⟨.load false 1 (.slot 61), some 62, none⟩, []⟩,
  ⟨⟨.iaddr 1 (.slot 47) (.slot 48), some 63, none⟩, []⟩,
  ⟨⟨.store 1 (.slot 63) (.slot 58), none, none⟩, []⟩,
  ⟨⟨.iaddr 1 (.slot 49) (.slot 52), some 64, none⟩, []⟩,
  ⟨⟨.store 1 (.slot 64) (.slot 62), none, none⟩, []⟩]
def r80_10 : List XLine := [⟨⟨.mv (.slot 9), some 34, none⟩, []⟩,
  ⟨⟨.bin .add 3 .num (.slot 34) (.const (.int .i64 (.ofNat 1))), some 35, none⟩, []⟩,
  ⟨⟨.mv (.slot 35), some 9, none⟩, []⟩]
def xf80 : XFunc := ⟨(.seq (.region false r80_0)
  (.seq (.region false r80_1)
  (.cond (.slot 15)
  (.seq (.region false r80_2)
  (.seq (.region false r80_3)
  (.seq (.region false r80_4)
  (.block 0 (.loop (.seq (.seq (.region false r80_5)
  (.cond (.slot 33)
  .skip
  (.exit 0)))
  (.seq (.block 1 (.seq (.region false r80_6)
  (.seq (.seq (.region false r80_7)
  (.cond (.slot 43)
  (.region false r80_8)
  .skip))
  (.region true r80_9))))
  (.region false r80_10))))))))
  .skip))),
  []⟩
theorem xf80_ok : compFunc Try.prog Try.f80 = some xf80 := by kernel_rfl
/- slices.choosePivotOrdered[int64] -/
def r81_0 : List XLine := [⟨⟨.mv (.const (.int .i64 (.ofNat 0))), some 6, none⟩, []⟩,
  ⟨⟨.mv (.const (.int .i64 (.ofNat 0))), some 7, none⟩, []⟩]
def r81_1 : List XLine := [⟨⟨.mv (.slot 2), some 13, none⟩, []⟩,
  ⟨⟨.mv (.slot 1), some 14, none⟩, []⟩,
  ⟨⟨.bin .sub 3 .num (.slot 13) (.slot 14), some 15, none⟩, []⟩,
  ⟨⟨.mv (.slot 15), some 8, none⟩, []⟩]
def r81_2 : List XLine := [⟨⟨.alloc [(.int .i64 (.ofNat 0))], some 9, none⟩, []⟩]
def r81_3 : List XLine := [⟨⟨.mv (.slot 1), some 16, none⟩, []⟩,
  ⟨⟨.mv (.slot 8), some 17, none⟩, []⟩,
  ⟨⟨.bin .quo 3 .num (.slot 17) (.const (.int .i64 (.ofNat 4))), some 18, none⟩, []⟩,
  ⟨⟨.bin .mul 3 .num (.slot 18) (.const (.int .i64 (.ofNat 1))), some 19, none⟩, []⟩,
  ⟨⟨.bin .add 3 .num (.slot 16) (.slot 19), some 20, none⟩, []⟩,
  ⟨⟨.mv (.slot 20), some 10, none⟩, []⟩]
def r81_4 : List XLine := [⟨⟨.mv (.slot 1), some 21, none⟩, []⟩,
  ⟨⟨.mv (.slot 8), some 22, none⟩, []⟩,
  ⟨⟨.bin .quo 3 .num (.slot 22) (.const (.int .i64 (.ofNat 4))), some 23, none⟩, []⟩,
  ⟨⟨.bin .mul 3 .num (.slot 23) (.const (.int .i64 (.ofNat 2))), some 24, none⟩, []⟩,
  ⟨⟨.bin .add 3 .num (.slot 21) (.slot 24), some 25, none⟩, []⟩,
  ⟨⟨.mv (.slot 25), some 11, none⟩, []⟩]
def r81_5 : List XLine := [⟨⟨.mv (.slot 1), some 26, none⟩, []⟩,
  ⟨⟨.mv (.slot 8), some 27, none⟩, []⟩,
  ⟨⟨.bin .quo 3 .num (.slot 27) (.const (.int .i64 (.ofNat 4))), some 28, none⟩, []⟩,
  ⟨⟨.bin .mul 3 .num (.slot 28) (.const (.int .i64 (.ofNat 3))), some 29, none⟩, []⟩,
  ⟨⟨.bin .add 3 .num (.slot 26) (.slot 29), some 30, none⟩, []⟩,
  ⟨⟨.mv (.slot 30), some 12, none⟩, []⟩]
def r81_6 : List XLine := [⟨⟨.mv (.slot 8), some 31, none⟩, []⟩,
  ⟨⟨.bin .geq 3 .num (.slot 31) (.const (.int .i64 (.ofNat 8))), some 32, none⟩, []⟩]
def r81_7 : List XLine := [⟨⟨.mv (.slot 8), some 33, none⟩, []⟩,
  ⟨⟨.bin .geq 3 .num (.slot 33) (.const (.int .i64 (.ofNat 50))), some 34, none⟩, []⟩]
def r81_8 : List XLine := [⟨⟨.mv (.slot 0), some 35, none⟩, []⟩,
  ⟨⟨.mv (.slot 10), some 36, none⟩, []⟩,
  ⟨⟨.call (.const (.func 94 [] [])) [(.slot 35), (.slot 36), (.slot 9)], some 37, none⟩, []⟩,
  ⟨⟨.mv (.slot 37), some 10, none⟩, []⟩]
def r81_9 : List XLine := [⟨⟨.mv (.slot 0), some 38, none⟩, []⟩,
  ⟨⟨.mv (.slot 11), some 39, none⟩, []⟩,
  ⟨⟨.call (.const (.func 94 [] [])) [(.slot 38), (.slot 39), (.slot 9)], some 40, none⟩, []⟩,
  ⟨⟨.mv (.slot 40), some 11, none⟩, []⟩]
def r81_10 : List XLine := [⟨⟨.mv (.slot 0), some 41, none⟩, []⟩,
  ⟨⟨.mv (.slot 12), some 42, none⟩, []⟩,
  ⟨⟨.call (.const (.func 94 [] [])) [(.slot 41), (.slot 42), (.slot 9)], some 43, none⟩, []⟩,
  ⟨⟨.mv (.slot 43), some 12, none⟩, []⟩]
def r81_11 : List XLine := [⟨⟨.mv (.slot 0), some 44, none⟩, []⟩,
  ⟨⟨.mv (.slot 10), some 45, none⟩, []⟩,
  ⟨⟨.mv (.slot 11), some 46, none⟩, []⟩,
  ⟨⟨.mv (.slot 12), some 47, none⟩, []⟩,
  ⟨⟨.call (.const (.func 95 [] [])) [(.slot 44), (.slot 45), (.slot 46), (.slot 47), (.slot 9)], some 48, none⟩, []⟩,
  ⟨⟨.mv (.slot 48), some 11, none⟩, []⟩]
def r81_12 : List XLine := [⟨⟨.load false 1 (.slot 9), some 49, none⟩, []⟩]
def r81_13 : List XLine := [⟨⟨.bin .eql 3 .num (.slot 49) (.const (.int .i64 (.ofNat 0))), some 52, none⟩, []⟩,
  ⟨⟨.mv (.slot 52), some 51, none⟩, []⟩]
def r81_14 : List XLine := [⟨⟨.mv (.slot 11), some 53, none⟩, []⟩,
  ⟨⟨.mv (.slot 53), some 6, none⟩, []⟩,
  ⟨⟨.mv (.const (.int .i64 (.ofNat 1))), some 7, none⟩, []⟩]
def r81_15 : List XLine := [⟨⟨.bin .eql 3 .num (.slot 49) (.const (.int .i64 (.ofNat 12))), some 55, none⟩, []⟩,
  ⟨⟨.mv (.slot 55), some 54, none⟩, []⟩]
def r81_16 : List XLine := [⟨⟨.mv (.slot 11), some 56, none⟩, []⟩,
  ⟨⟨.mv (.slot 56), some 6, none⟩, []⟩,
  ⟨⟨.mv (.const (.int .i64 (.ofNat 2))), some 7, none⟩, []⟩]
def r81_17 : List XLine := [⟨⟨.mv (.slot 11), some 50, none⟩, []⟩,
  ⟨⟨.mv (.slot 50), some 6, none⟩, []⟩,
  ⟨⟨.mv (.const (.int .i64 (.ofNat 0))), some 7, none⟩, []⟩]
def xf81 : XFunc := ⟨(.seq (.region false r81_0)
  (.seq (.region false r81_1)
  (.seq (.region false r81_2)
  (.seq (.region false r81_3)
  (.seq (.region false r81_4)
  (.seq (.region false r81_5)
  (.seq (.seq (.region false r81_6)
  (.cond (.slot 32)
  (.seq (.seq (.region false r81_7)
  (.cond (.slot 34)
  (.seq (.region false r81_8)
  (.seq (.region false r81_9)
  (.region false r81_10)))
  .skip))
  (.region false r81_11))
  .skip))
  (.seq (.region false r81_12)
  (.block 0 (.seq (.region false r81_13)
  (.cond (.slot 51)
  (.seq (.region false r81_14)
  .ret)
  (.seq (.region false r81_15)
  (.cond (.slot 54)
  (.seq (.region false r81_16)
  .ret)
  (.seq (.region false r81_17)
  .ret)))))))))))))),
  [.tmp 6, .tmp 7]⟩
theorem xf81_ok : compFunc Try.prog Try.f81 = some xf81 := by kernel_rfl
/- slices.reverseRangeOrdered[int64] -/
def r82_0 : List XLine := [⟨⟨.mv (.slot 1), some 8, none⟩, []⟩,
  ⟨⟨.mv (.slot 8), some 6, none⟩, []⟩]
def r82_1 : List XLine := [⟨⟨.mv (.slot 2), some 9, none⟩, []⟩,
  ⟨⟨.bin .sub 3 .num (.slot 9) (.const (.int .i64 (.ofNat 1))), some 10, none⟩, []⟩,
  ⟨⟨.mv (.slot 10), some 7, none⟩, []⟩]
def r82_2 : List XLine := [⟨⟨.mv (.slot 6), some 11, none⟩, []⟩,
  ⟨⟨.mv (.slot 7), some 12, none⟩, []⟩,
  ⟨⟨.bin .lss 3 .num (.slot 11) (.slot 12), some 13, none⟩, []⟩]
def r82_3 : List XLine := [⟨⟨.mv (.slot 0), some 14, none⟩, []⟩,
  ⟨⟨.mv (.slot 6), some 15, none⟩, []⟩,
  ⟨⟨.mv (.slot 0), some 16, none⟩, []⟩,
  ⟨⟨.mv (.slot 7), some 17, none⟩, []⟩,
  ⟨⟨.mv (.slot 0), some 18, none⟩, []⟩,
  ⟨⟨.mv (.slot 7), some 19, none⟩, []⟩,
  ⟨⟨.iaddr 1 (.slot 18) (.slot 19), some 20, none⟩, []⟩,
  ⟨⟨.load false 1 (.slot 20), some 21, none⟩, []⟩,
  ⟨⟨.mv (.slot 0), some 22, none⟩, []⟩,
  ⟨⟨.mv (.slot 6), some 23, none⟩, []⟩,
  ⟨⟨.iaddr 1 (.slot 22) (.slot 23), some 24, none⟩, []⟩,
  ⟨⟨.load false 1 (.slot 24), some 25, none⟩, []⟩,
  ⟨⟨.iaddr 1 (.slot 14) (.slot 15), some 26, none⟩, []⟩,
  ⟨⟨.store 1 (.slot 26) (.slot 21), none, none⟩, []⟩,
  ⟨⟨.iaddr 1 (.slot 16) (.slot 17), some 27, none⟩, []⟩,
  ⟨⟨.store 1 (.slot 27) (.slot 25), none, none⟩, []⟩]
def r82_4 : List XLine := [⟨⟨.mv (.slot 6), some 28, none⟩, []⟩,
  ⟨⟨.bin .add 3 .num (.slot 28) (.const (.int .i64 (.ofNat 1))), some 29, none⟩, []⟩,
  ⟨⟨.mv (.slot 29), some 6, none⟩, []⟩]
def r82_5 : List XLine := [⟨⟨.mv (.slot 7), some 30, none⟩, []⟩,
  ⟨⟨.bin .sub 3 .num (.slot 30) (.const (.int .i64 (.ofNat 1))), some 31, none⟩, []⟩,
  ⟨⟨.mv (.slot 31), some 7, none⟩, []⟩]
def xf82 : XFunc := ⟨(.seq (.region false r82_0)
  (.seq (.region false r82_1)
  (.block 0 (.loop (.seq (.seq (.region false r82_2)
  (.cond (.slot 13)
  .skip
  (.exit 0)))
  (.block 1 (.seq (.region true r82_3)
  (.seq (.region false r82_4)
  (.region false r82_5))))))))),
  []⟩
theorem xf82_ok : compFunc Try.prog Try.f82 = some xf82 := by kernel_rfl
/- slices.partialInsertionSortOrdered[int64] -/
def r83_0 : List XLine := [⟨⟨.mv (.const (.bool false)), some 6, none⟩, []⟩]
def r83_1 : List XLine := [⟨⟨.mv (.slot 1), some 11, none⟩, []⟩,
  ⟨⟨.bin .add 3 .num (.slot 11) (.const (.int .i64 (.ofNat 1))), some 12, none⟩, []⟩,
  ⟨⟨.mv (.slot 12), some 7, none⟩, []⟩]
def r83_2 : List XLine := [⟨⟨.mv (.const (.int .i64 (.ofNat 0))), some 8, none⟩, []⟩]
def r83_3 : List XLine := [⟨⟨.mv (.slot 8), some 13, none⟩, []⟩,
  ⟨⟨.bin .lss 3 .num (.slot 13) (.const (.int .i64 (.ofNat 5))), some 14, none⟩, []⟩]
def r83_4 : List XLine := [⟨⟨.mv (.slot 7), some 17, none⟩, []⟩,
  ⟨⟨.mv (.slot 2), some 18, none⟩, []⟩,
  ⟨⟨.bin .lss 3 .num (.slot 17) (.slot 18), some 19, none⟩, []⟩,
  ⟨⟨.mv (.slot 19), some 20, none⟩, []⟩,
  ⟨⟨.mv (.slot 0), some 21, some (20, true)⟩, []⟩,
  ⟨⟨.mv (.slot 7), some 22, some (20, true)⟩, []⟩,
  ⟨⟨.iaddr 1 (.slot 21) (.slot 22), some 23, some (20, true)⟩, []⟩,
  ⟨⟨.load false 1 (.slot 23), some 24, some (20, true)⟩, []⟩,
  ⟨⟨.mv (.slot 0), some 25, some (20, true)⟩, []⟩,
  ⟨⟨.mv (.slot 7), some 26, some (20, true)⟩, []⟩,
  ⟨⟨.bin .sub 3 .num (.slot 26) (.const (.int .i64 (.ofNat 1))), some 27, some (20, true)⟩, []⟩,
  ⟨⟨.iaddr 1 (.slot 25) (.slot 27), some 28, some (20, true)⟩, []⟩,
  ⟨⟨.load false 1 (.slot 28), some 29, some (20, true)⟩, []⟩,
  ⟨⟨.call (.const (.func 84 [] [])) [(.slot 24), (.slot 29)], some 30, some (20, true)⟩, []⟩,
  ⟨⟨.un .not (.slot 30), some 31, some (20, true)⟩, []⟩,
  ⟨⟨.pick (.slot 20) (.slot 31) (.const (.bool false)), some 32, none⟩, []⟩]
def r83_5 : List XLine := [⟨⟨.mv (.slot 7), some 33, none⟩, []⟩,
  ⟨⟨.bin .add 3 .num (.slot 33) (.const (.int .i64 (.ofNat 1))), some 34, none⟩, []⟩,
  ⟨⟨.mv (.slot 34), some 7, none⟩, []⟩]
def r83_6 : List XLine := [⟨⟨.mv (.slot 7), some 35, none⟩, []⟩,
  ⟨⟨.mv (.slot 2), some 36, none⟩, []⟩,
  ⟨⟨.bin .eql 3 .num (.slot 35) (.slot 36), some 37, none⟩, []⟩]
def r83_7 : List XLine := [⟨⟨.mv (.const (.bool true)), some 6, none⟩, []⟩]
def r83_8 : List XLine := [⟨⟨.mv (.slot 2), some 38, none⟩, []⟩,
  ⟨⟨.mv (.slot 1), some 39, none⟩, []⟩,
  ⟨⟨.bin .sub 3 .num (.slot 38) (.slot 39), some 40, none⟩, []⟩,
  ⟨⟨.bin .lss 3 .num (.slot 40) (.const (.int .i64 (.ofNat 50))), some 41, none⟩, []⟩]
def r83_9 : List XLine := [⟨⟨.mv (.const (.bool false)), some 6, none⟩, []⟩]
def r83_10 : List XLine := [⟨⟨.mv (.slot 0), some 42, none⟩, []⟩,
  ⟨⟨.mv (.slot 7), some 43, none⟩, []⟩,
  ⟨⟨.mv (.slot 0), some 44, none⟩, []⟩,
  ⟨⟨.mv (.slot 7), some 45, none⟩, []⟩,
  ⟨⟨.bin .sub 3 .num (.slot 45) (.const (.int .i64 (.ofNat 1))), some 46, none⟩, []⟩,
  ⟨⟨.mv (.slot 0), some 47, none⟩, []⟩,
  ⟨⟨.mv (.slot 7), some 48, none⟩, []⟩,
  ⟨⟨.bin .sub 3 .num (.slot 48) (.const (.int .i64 (.ofNat 1))), some 49, none⟩, []⟩,
  ⟨⟨.iaddr 1 (.slot 47) (.slot 49), some 50, none⟩, []⟩,
  ⟨⟨.load false 1 (.slot 50), some 51, none⟩, []⟩,
  ⟨⟨.mv (.slot 0), some 52, none⟩, []⟩,
  ⟨⟨.mv (.slot 7), some 53, none⟩, []⟩,
  ⟨⟨.iaddr 1 (.slot 52) (.slot 53), some 54, none⟩, []⟩,
  ⟨⟨.load false 1 (.slot 54), some 55, none⟩, []⟩,
  ⟨⟨.iaddr 1 (.slot 42) (.slot 43), some 56, none⟩, []⟩,
  ⟨⟨.store 1 (.slot 56) (.slot 51), none, none⟩, []⟩,
  ⟨⟨.iaddr 1 (.slot 44) (.slot 46), some 57, none⟩, []⟩,
  ⟨⟨.store 1 (.slot 57) (.slot 55), none, none⟩, []⟩]
def r83_11 : List XLine := [⟨⟨.mv (.slot 7), some 58, none⟩, []⟩,
  ⟨⟨.mv (.slot 1), some 59, none⟩, []⟩,
  ⟨⟨.bin .sub 3 .num (.slot 58) (.slot 59), some 60, none⟩, []⟩,
  ⟨⟨.bin .geq 3 .num (.slot 60) (.const (.int .i64 (.ofNat 2))), some 61, none⟩, []⟩]
def r83_12 : List XLine := [⟨⟨.mv (.slot 7), some 62, none⟩, []⟩,
  ⟨⟨.bin .sub 3 .num (.slot 62) (.const (.int .i64 (.ofNat 1))), some 63, none⟩, []⟩,
  ⟨⟨.mv (.slot 63), some 9, none⟩, []⟩]
def r83_13 : List XLine := [⟨⟨.mv (.slot 9), some 64, none⟩, []⟩,
  ⟨⟨.bin .geq 3 .num (.slot 64) (.const (.int .i64 (.ofNat 1))), some 65, none⟩, []⟩]
def r83_14 : List XLine := [⟨⟨.mv (.slot 0), some 68, none⟩, []⟩,
  ⟨⟨.mv (.slot 9), some 69, none⟩, []⟩,
  ⟨⟨.iaddr 1 (.slot 68) (.slot 69), some 70, none⟩, []⟩,
  ⟨⟨.load false 1 (.slot 70), some 71, none⟩, []⟩,
  ⟨⟨.mv (.slot 0), some 72, none⟩, []⟩,
  ⟨⟨.mv (.slot 9), some 73, none⟩, []⟩,
  ⟨⟨.bin .sub 3 .num (.slot 73) (.const (.int .i64 (.ofNat 1))), some 74, none⟩, []⟩,
  ⟨⟨.iaddr 1 (.slot 72) (.slot 74), some 75, none⟩, []⟩,
  ⟨⟨.load false 1 (.slot 75), some 76, none⟩, []⟩,
  ⟨⟨.call (.const (.func 84 [] [])) [(.slot 71), (.slot 76)], some 77, none⟩, []⟩,
  ⟨⟨.un .not (.slot 77), some 78, none⟩, []⟩]
def r83_15 : List XLine := [⟨⟨.mv (.slot 0), some 79, none⟩, []⟩,
  ⟨⟨.mv (.slot 9), some 80, none⟩, []⟩,
  ⟨⟨.mv (.slot 0), some 81, none⟩, []⟩,
  ⟨⟨.mv (.slot 9), some 82, none⟩, []⟩,
  ⟨⟨.bin .sub 3 .num (.slot 82) (.const (.int .i64 (.ofNat 1))), some 83, none⟩, []⟩,
  ⟨⟨.mv (.slot 0), some 84, none⟩, []⟩,
  ⟨⟨.mv (.slot 9), some 85, none⟩, []⟩,
  ⟨⟨.bin .sub 3 .num (.slot 85) (.const (.int .i64 (.ofNat 1))), some 86, none⟩, []⟩,
  ⟨⟨.iaddr 1 (.slot 84) (.slot 86), some 87, none⟩, []⟩,
  ⟨⟨.load false 1 (.slot 87), some 88, none⟩, []⟩,
  ⟨⟨.mv (.slot 0), some 89, none⟩, []⟩,
  ⟨⟨.mv (.slot 9), some 90, none⟩, []⟩,
  ⟨⟨.iaddr 1 (.slot 89) (.slot 90), some 91, none⟩, []⟩,
  ⟨⟨.load false 1 (.slot 91), some 92, none⟩, []⟩,
  ⟨⟨.iaddr 1 (.slot 79) (.slot 80), some 93, none⟩, []⟩,
  ⟨⟨.store 1 (.slot 93) (.slot 88), none, none⟩, []⟩,
  ⟨⟨.iaddr 1 (.slot 81) (.slot 83), some 94, none⟩, []⟩,
  ⟨⟨.store 1 (.slot 94) (.slot 92), none, none⟩, []⟩]
def r83_16 : List XLine := [⟨⟨.mv (.slot 9), some 66, none⟩, []⟩,
  ⟨⟨.bin .sub 3 .num (.slot 66) (.const (.int .i64 (.ofNat 1))), some 67, none⟩, []⟩,
  ⟨⟨.mv (.slot 67), some 9, none⟩, []⟩]
def r83_17 : List XLine := [⟨⟨.mv (.slot 2), some 95, none⟩, []⟩,
  ⟨⟨.mv (.slot 7), some 96, none⟩, []⟩,
  ⟨⟨.bin .sub 3 .num (.slot 95) (.slot 96), some 97, none⟩, []⟩,
  ⟨⟨.bin .geq 3 .num (.slot 97) (.const (.int .i64 (.ofNat 2))), some 98, none⟩, []⟩]
def r83_18 : List XLine := [⟨⟨.mv (.slot 7), some 99, none⟩, []⟩,
  ⟨⟨.bin .add 3 .num (.slot 99) (.const (.int .i64 (.ofNat 1))), some 100, none⟩, []⟩,
  ⟨⟨.mv (.slot 100), some 10, none⟩, []⟩]
def r83_19 : List XLine := [⟨⟨.mv (.slot 10), some 101, none⟩, []⟩,
  ⟨⟨.mv (.slot 2), some 102, none⟩, []⟩,
  ⟨⟨.bin .lss 3 .num (.slot 101) (.slot 102), some 103, none⟩, []⟩]
def r83_20 : List XLine := [⟨⟨.mv (.slot 0), some 106, none⟩, []⟩,
  ⟨⟨.mv (.slot 10), some 107, none⟩, []⟩,
  ⟨⟨.iaddr 1 (.slot 106) (.slot 107), some 108, none⟩, []⟩,
  ⟨⟨.load false 1 (.slot 108), some 109, none⟩, []⟩,
  ⟨⟨.mv (.slot 0), some 110, none⟩, []⟩,
  ⟨⟨.mv (.slot 10), some 111, none⟩, []⟩,
  ⟨⟨.bin .sub 3 .num (.slot 111) (.const (.int .i64 (.ofNat 1))), some 112, none⟩, []⟩,
  ⟨⟨.iaddr 1 (.slot 110) (.slot 112), some 113, none⟩, []⟩,
  ⟨⟨.load false 1 (.slot 113), some 114, none⟩, []⟩,
  ⟨⟨.call (.const (.func 84 [] [])) [(.slot 109), (.slot 114)], some 115, none⟩, []⟩,
  ⟨⟨.un .not (.slot 115), some 116, none⟩, []⟩]
def r83_21 : List XLine := [⟨⟨.mv (.slot 0), some 117, none⟩, []⟩,
  ⟨⟨.mv (.slot 10), some 118, none⟩, []⟩,
  ⟨⟨.mv (.slot 0), some 119, none⟩, []⟩,
  ⟨⟨.mv (.slot 10), some 120, none⟩, []⟩,
  ⟨⟨.bin .sub 3 .num (.slot 120) (.const (.int .i64 (.ofNat 1))), some 121, none⟩, []⟩,
  ⟨⟨.mv (.slot 0), some 122, none⟩, []⟩,
  ⟨⟨.mv (.slot 10), some 123, none⟩, []⟩,
  ⟨⟨.bin .sub 3 .num (.slot 123) (.const (.int .i64 (.ofNat 1))), some 124, none⟩, []⟩,
  ⟨⟨.iaddr 1 (.slot 122) (.slot 124), some 125, none⟩, []⟩,
  ⟨⟨.load false 1 (.slot 125), some 126, none⟩, []⟩,
  ⟨⟨.mv (.slot 0), some 127, none⟩, []⟩,
  ⟨⟨.mv (.slot 10), some 128, none⟩, []⟩,
  ⟨⟨.iaddr 1 (.slot 127) (.slot 128), some 129, none⟩, []⟩,
  ⟨⟨.load false 1 (.slot 129), some 130, none⟩, []⟩,
  ⟨⟨.iaddr 1 (.slot 117) (.slot 118), some 131, none⟩, []⟩,
  ⟨⟨.store 1 (.slot 131) (.slot 126), none, none⟩, []⟩,
  ⟨⟨.iaddr 1 (.slot 119) (.slot 121), some 132, none⟩, []⟩,
  ⟨⟨.store 1 (.slot 132) (.slot 130), none, none⟩, []⟩]
def r83_22 : List XLine := [⟨⟨.mv (.slot 10), some 104, none⟩, []⟩,
  ⟨⟨.bin .add 3 .num (.slot 104) (.const (.int .i64 (.ofNat 1))), some 105, none⟩, []⟩,
  ⟨⟨.mv (.slot 105), some 10, none⟩, []⟩]
def r83_23 : List XLine := [⟨⟨.mv (.slot 8), some 15, none⟩, []⟩,
  ⟨⟨.bin .add 3 .num (.slot 15) (.const (.int .i64 (.ofNat 1))), some 16, none⟩, []⟩,
  ⟨⟨.mv (.slot 16), some 8, none⟩, []⟩]
def r83_24 : List XLine := [⟨⟨.mv (.const (.bool false)), some 6, none⟩, []⟩]
def xf83 : XFunc := ⟨(.seq (.region false r83_0)
  (.seq (.region false r83_1)
  (.seq (.seq (.region false r83_2)
  (.block 0 (.loop (.seq (.seq (.region false r83_3)
  (.cond (.slot 14)
  .skip
  (.exit 0)))
  (.seq (.block 1 (.seq (.block 2 (.loop (.seq (.seq (.region true r83_4)
  (.cond (.slot 32)
  .skip
  (.exit 2)))
  (.block 3 (.region false r83_5)))))
  (.seq (.seq (.region false r83_6)
  (.cond (.slot 37)
  (.seq (.region false r83_7)
  .ret)
  .skip))
  (.seq (.seq (.region false r83_8)
  (.cond (.slot 41)
  (.seq (.region false r83_9)
  .ret)
  .skip))
  (.seq (.region true r83_10)
  (.seq (.seq (.region false r83_11)
  (.cond (.slot 61)
  (.seq (.region false r83_12)
  (.block 4 (.loop (.seq (.seq (.region false r83_13)
  (.cond (.slot 65)
  .skip
  (.exit 4)))
  (.seq (.block 5 (.seq (.seq (.region true r83_14)
  (.cond (.slot 78)
  (.exit 4)
  .skip))
  (.region true r83_15)))
  (.region false r83_16))))))
  .skip))
  (.seq (.region false r83_17)
  (.cond (.slot 98)
  (.seq (.region false r83_18)
  (.block 6 (.loop (.seq (.seq (.region false r83_19)
  (.cond (.slot 103)
  .skip
  (.exit 6)))
  (.seq (.block 7 (.seq (.seq (.region true r83_20)
  (.cond (.slot 116)
  (.exit 6)
  .skip))
  (.region true r83_21)))
  (.region false r83_22))))))
  .skip))))))))
  (.region false r83_23))))))
  (.seq (.region false r83_24)
  .ret)))),
  [.tmp 6]⟩
theorem xf83_ok : compFunc Try.prog Try.f83 = some xf83 := by kernel_rfl
/- cmp.Less[int64] -/
def r84_0 : List XLine := [⟨⟨.mv (.const (.bool false)), some 4, none⟩, []⟩]
def r84_1 : List XLine := [⟨⟨.mv (.slot 0), some 5, none⟩, []⟩,
  ⟨⟨.call (.const (.func 96 [] [])) [(.slot 5)], some 6, none⟩, []⟩,
  ⟨⟨.mv (.slot 6), some 7, none⟩, []⟩,
  ⟨⟨.mv (.slot 1), some 8, some (7, true)⟩, []⟩,
  ⟨⟨.call (.const (.func 96 [] [])) [(.slot 8)], some 9, some (7, true)⟩, []⟩,
  ⟨⟨.un .not (.slot 9), some 10, some (7, true)⟩, []⟩,
  ⟨⟨.pick (.slot 7) (.slot 10) (.const (.bool false)), some 11, none⟩, []⟩,
  ⟨⟨.mv (.slot 11), some 12, none⟩, []⟩,
  ⟨⟨.mv (.slot 0), some 13, some (12, false)⟩, []⟩,
  ⟨⟨.mv (.slot 1), some 14, some (12, false)⟩, []⟩,
  ⟨⟨.bin .lss 2 .num (.slot 13) (.slot 14), some 15, some (12, false)⟩, []⟩,
  ⟨⟨.pick (.slot 12) (.const (.bool true)) (.slot 15), some 16, none⟩, []⟩,
  ⟨⟨.mv (.slot 16), some 4, none⟩, []⟩]
def xf84 : XFunc := ⟨(.seq (.region false r84_0)
  (.seq (.region false r84_1)
  .ret)),
  [.tmp 4]⟩
theorem xf84_ok : compFunc Try.prog Try.f84 = some xf84 := by kernel_rfl
/- slices.partitionEqualOrdered[int64] -/
def r85_0 : List XLine := [⟨⟨.mv (.const (.int .i64 (.ofNat 0))), some 8, none⟩, []⟩]
def r85_1 : List XLine := [⟨⟨.mv (.slot 0), some 11, none⟩, []⟩,
  ⟨⟨.mv (.slot 1), some 12, none⟩, []⟩,
  ⟨⟨.mv (.slot 0), some 13, none⟩, []⟩,
  ⟨⟨.mv (.slot 3), some 14, none⟩, []⟩,
  ⟨⟨.mv (.slot 0), some 15, none⟩, []⟩,
  ⟨⟨.mv (.slot 3), some 16, none⟩, []⟩,
  ⟨⟨.iaddr 1 (.slot 15) (.slot 16), some 17, none⟩, []⟩,
  ⟨⟨.load false 1 (.slot 17), some 18, none⟩, []⟩,
  ⟨⟨.mv (.slot 0), some 19, none⟩, []⟩,
  ⟨⟨.mv (.slot 1), some 20, none⟩, []⟩,
  ⟨⟨.iaddr 1 (.slot 19) (.slot 20), some 21, none⟩, []⟩,
  ⟨⟨.load false 1 (.slot 21), some 22, none⟩, []⟩,
  ⟨⟨.iaddr 1 (.slot 11) (.slot 12), some 23, none⟩, []⟩,
  ⟨⟨.store 1 (.slot 23) (.slot 18), none, none⟩, []⟩,
  ⟨⟨.iaddr 1 (.slot 13) (.slot 14), some 24, none⟩, []⟩,
  ⟨⟨.store 1 (.slot 24) (.slot 22), none, none⟩, []⟩]
def r85_2 : List XLine := [⟨⟨.mv (.slot 1), some 25, none⟩, []⟩,
  ⟨⟨.bin .add 3 .num (.slot 25) (.const (.int .i64 (.ofNat 1))), some 26, none⟩, []⟩,
  ⟨⟨.mv (.slot 2), some 27, none⟩, []⟩,
  ⟨⟨.bin .sub 3 .num (.slot 27) (.const (.int .i64 (.ofNat 1))), some 28, none⟩, []⟩,
  ⟨⟨.mv (.slot 26), some 9, none⟩, []⟩,
  ⟨⟨.mv (.slot 28), some 10, none⟩, []⟩]
def r85_3 : List XLine := [⟨⟨.mv (.slot 9), some 29, none⟩, []⟩,
  ⟨⟨.mv (.slot 10), some 30, none⟩, []⟩,
  ⟨⟨.bin .leq 3 .num (.slot 29) (.slot 30), some 31, none⟩, []⟩,
  ⟨⟨.mv (.slot 31), some 32, none⟩, []⟩,
  ⟨⟨.mv (.slot 0), some 33, some (32, true)⟩, []⟩,
  ⟨⟨.mv (.slot 1), some 34, some (32, true)⟩, []⟩,
  ⟨⟨.iaddr 1 (.slot 33) (.slot 34), some 35, some (32, true)⟩, []⟩,
  ⟨⟨.load false 1 (.slot 35), some 36, some (32, true)⟩, []⟩,
  ⟨⟨.mv (.slot 0), some 37, some (32, true)⟩, []⟩,
  ⟨⟨.mv (.slot 9), some 38, some (32, true)⟩, []⟩,
  ⟨⟨.iaddr 1 (.slot 37) (.slot 38), some 39, some (32, true)⟩, []⟩,
  ⟨⟨.load false 1 (.slot 39), some 40, some (32, true)⟩, []⟩,
  ⟨⟨.call (.const (.func 84 [] [])) [(.slot 36), (.slot 40)], some 41, some (32, true)⟩, []⟩,
  ⟨⟨.un .not (.slot 41), some 42, some (32, true)⟩, []⟩,
  ⟨⟨.pick (.slot 32) (.slot 42) (.const (.bool false)), some 43, none⟩, []⟩]
def r85_4 : List XLine := [⟨⟨.mv (.slot 9), some 44, none⟩, []⟩,
  ⟨⟨.bin .add 3 .num (.slot 44) (.const (.int .i64 (.ofNat 1))), some 45, none⟩, []⟩,
  ⟨⟨.mv (.slot 45), some 9, none⟩, []⟩]
def r85_5 : List XLine := [⟨⟨.mv (.slot 9), some 46, none⟩, []⟩,
  ⟨⟨.mv (.slot 10), some 47, none⟩, []⟩,
  ⟨⟨.bin .leq 3 .num (.slot 46) (.slot 47), some 48, none⟩, []⟩,
  ⟨⟨.mv (.slot 48), some 49, none⟩, []⟩,
  ⟨⟨.mv (.slot 0), some 50, some (49, true)⟩, []⟩,
  ⟨⟨.mv (.slot 1), some 51, some (49, true)⟩, []⟩,
  ⟨⟨.iaddr 1 (.slot 50) (.slot 51), some 52, some (49, true)⟩, []⟩,
  ⟨⟨.load false 1 (.slot 52), some 53, some (49, true)⟩, []⟩,
  ⟨⟨.mv (.slot 0), some 54, some (49, true)⟩, []⟩,
  ⟨⟨.mv (.slot 10), some 55, some (49, true)⟩, []⟩,
  ⟨⟨.iaddr 1 (.slot 54) (.slot 55), some 56, some (49, true)⟩, []⟩,
  ⟨⟨.load false 1 (.slot 56), some 57, some (49, true)⟩, []⟩,
  ⟨⟨.call (.const (.func 84 [] [])) [(.slot 53), (.slot 57)], some 58, some (49, true)⟩, []⟩,
  ⟨⟨.pick (.slot 49) (.slot 58) (.const (.bool false)), some 59, none⟩, []⟩]
def r85_6 : List XLine := [⟨⟨.mv (.slot 10), some 60, none⟩, []⟩,
  ⟨⟨.bin .sub 3 .num (.slot 60) (.const (.int .i64 (.ofNat 1))), some 61, none⟩, []⟩,
  ⟨⟨.mv (.slot 61), some 10, none⟩, []⟩]
def r85_7 : List XLine := [⟨⟨.mv (.slot 9), some 62, none⟩, []⟩,
  ⟨⟨.mv (.slot 10), some 63, none⟩, []⟩,
  ⟨⟨.bin .gtr 3 .num (.slot 62) (.slot 63), some 64, none⟩, []⟩]
def r85_8 : List XLine := [⟨⟨.mv (.slot 0), some 65, none⟩, []⟩,
  ⟨⟨.mv (.slot 9), some 66, none⟩, []⟩,
  ⟨⟨.mv (.slot 0), some 67, none⟩, []⟩,
  ⟨⟨.mv (.slot 10), some 68, none⟩, []⟩,
  ⟨⟨.mv (.slot 0), some 69, none⟩, []⟩,
  ⟨⟨.mv (.slot 10), some 70, none⟩, []⟩,
  ⟨⟨.iaddr 1 (.slot 69) (.slot 70), some 71, none⟩, []⟩,
  ⟨⟨.load false 1 (.slot 71), some 72, none⟩, []⟩,
  ⟨⟨.mv (.slot 0), some 73, none⟩, []⟩,
  ⟨⟨.mv (.slot 9), some 74, none⟩, []⟩,
  ⟨⟨.iaddr 1 (.slot 73) (.slot 74), some 75, none⟩, []⟩,
  ⟨⟨.load false 1 (.slot 75), some 76, none⟩, []⟩,
  ⟨⟨.iaddr 1 (.slot 65) (.slot 66), some 77, none⟩, []⟩,
  ⟨⟨.store 1 (.slot 77) (.slot 72), none, none⟩, []⟩,
  ⟨⟨.iaddr 1 (.slot 67) (.slot 68), some 78, none⟩, []⟩,
  ⟨⟨.store 1 (.slot 78) (.slot 76), none, none⟩, []⟩]
def r85_9 : List XLine := [⟨⟨.mv (.slot 9), some 79, none⟩, []⟩,
  ⟨⟨.bin .add 3 .num (.slot 79) (.const (.int .i64 (.ofNat 1))), some 80, none⟩, []⟩,
  ⟨⟨.mv (.slot 80), some 9, none⟩, []⟩]
def r85_10 : List XLine := [⟨⟨.mv (.slot 10), some 81, none⟩, []⟩,
  ⟨⟨.bin .sub 3 .num (.slot 81) (.const (.int .i64 (.ofNat 1))), some 82, none⟩, []⟩,
  ⟨⟨.mv (.slot 82), some 10, none⟩, []⟩]
def r85_11 : List XLine := [⟨⟨.mv (.slot 9), some 83, none⟩, []⟩,
  ⟨⟨.mv (.slot 83), some 8, none⟩, []⟩]
def xf85 : XFunc := ⟨(.seq (.region false r85_0)
  (.seq (.region true r85_1)
  (.seq (.region false r85_2)
  (.seq (.block 0 (.loop (.block 1 (.seq (.block 2 (.loop (.seq (.seq (.region true r85_3)
  (.cond (.slot 43)
  .skip
  (.exit 2)))
  (.block 3 (.region false r85_4)))))
  (.seq (.block 4 (.loop (.seq (.seq (.region true r85_5)
  (.cond (.slot 59)
  .skip
  (.exit 4)))
  (.block 5 (.region false r85_6)))))
  (.seq (.seq (.region false r85_7)
  (.cond (.slot 64)
  (.exit 0)
  .skip))
  (.seq (.region true r85_8)
  (.seq (.region false r85_9)
  (.region false r85_10)))))))))
  (.seq (.region false r85_11)
  .ret))))),
  [.tmp 8]⟩
theorem xf85_ok : compFunc Try.prog Try.f85 = some xf85 := by kernel_rfl
end Go.Proofs.Ytaljkapnfkbdbaa

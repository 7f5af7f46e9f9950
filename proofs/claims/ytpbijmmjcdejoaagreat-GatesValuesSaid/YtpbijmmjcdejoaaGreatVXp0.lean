/- The functions of the program in X's code, printed by a program of ours; each is what the program's own is turned to. -/
import Derived.Test.YtpbijmmjcdejoaaGreatProg
import Derived.Test.YtpbijmmjcdejoaaGreatW0
import Derived.KernelRfl
namespace Go.Proofs.YtpbijmmjcdejoaaGreat
open Go.Xr
/- gosem.cut.init -/
def r2_0 : List XLine := [⟨⟨.call (.const (.func 1 [] [])) [], some 0, none⟩, []⟩]
def xf2 : XFunc := ⟨(.region false r2_0),
  []⟩
theorem xf2_ok : compFunc Tryz.prog Tryz.f2 = some xf2 := by kernel_rfl
/- threshing/threshinglaw26.GatesValues -/
def r3_0 : List XLine := [⟨⟨.box (.slot 0), some 2, none⟩, []⟩,
  ⟨⟨.mv (.const (.bool false)), some 4, none⟩, []⟩]
def r3_1 : List XLine := [⟨⟨.faddr 2 (.slot 2), some 5, none⟩, []⟩,
  ⟨⟨.load false 1 (.slot 5), some 6, none⟩, []⟩,
  ⟨⟨.len .slice (.slot 6), some 7, none⟩, []⟩,
  ⟨⟨.bin .gtr 3 .num (.slot 7) (.const (.int .i64 (.ofNat 100))), some 8, none⟩, []⟩,
  ⟨⟨.mv (.slot 8), some 9, none⟩, []⟩,
  ⟨⟨.mv (.slot 1), some 10, some (9, false)⟩, []⟩,
  ⟨⟨.len .slice (.slot 10), some 11, some (9, false)⟩, []⟩,
  ⟨⟨.bin .gtr 3 .num (.slot 11) (.const (.int .i64 (.ofNat 1000))), some 12, some (9, false)⟩, []⟩,
  ⟨⟨.pick (.slot 9) (.const (.bool true)) (.slot 12), some 13, none⟩, []⟩]
def r3_2 : List XLine := [⟨⟨.call (.const (.func 4 [] [])) [], some 14, none⟩, []⟩,
  ⟨⟨.mv (.slot 14), some 4, none⟩, []⟩]
def r3_3 : List XLine := [⟨⟨.load true 4 (.slot 2), some 15, none⟩, []⟩,
  ⟨⟨.mv (.slot 1), some 16, none⟩, []⟩,
  ⟨⟨.faddr 0 (.slot 2), some 18, none⟩, []⟩,
  ⟨⟨.load false 1 (.slot 18), some 19, none⟩, []⟩,
  ⟨⟨.faddr 1 (.slot 2), some 20, none⟩, []⟩,
  ⟨⟨.load false 1 (.slot 20), some 21, none⟩, []⟩,
  ⟨⟨.faddr 2 (.slot 2), some 22, none⟩, []⟩,
  ⟨⟨.load false 1 (.slot 22), some 23, none⟩, []⟩,
  ⟨⟨.build [(.int .u8 (.ofNat 0)), (.int .i32 (.ofNat 0)), .nils, .nils] [(0, 1, (.slot 19)), (1, 1, (.slot 21)), (2, 1, (.slot 23))], some 24, none⟩, []⟩,
  ⟨⟨.mv (.slot 1), some 25, none⟩, []⟩,
  ⟨⟨.call (.const (.func 5 [] [])) [(.slot 15), (.slot 16)], some 17, none⟩, [⟨.load false 1 (.slot 18), some 19, none⟩, ⟨.load false 1 (.slot 20), some 21, none⟩, ⟨.load false 1 (.slot 22), some 23, none⟩]⟩,
  ⟨⟨.call (.const (.func 6 [] [])) [(.slot 24), (.slot 25)], some 26, none⟩, []⟩,
  ⟨⟨.bin .eql 4 .bool (.slot 17) (.slot 26), some 27, none⟩, []⟩,
  ⟨⟨.mv (.slot 27), some 28, none⟩, []⟩,
  ⟨⟨.call (.const (.func 4 [] [])) [], some 29, some (28, true)⟩, []⟩,
  ⟨⟨.pick (.slot 28) (.slot 29) (.const (.bool false)), some 30, none⟩, []⟩,
  ⟨⟨.mv (.slot 30), some 4, none⟩, []⟩]
def xf3 : XFunc := ⟨(.seq (.region false r3_0)
  (.seq (.seq (.region false r3_1)
  (.cond (.slot 13)
  (.seq (.region false r3_2)
  .ret)
  .skip))
  (.seq (.region true r3_3)
  .ret))),
  [.tmp 4]⟩
theorem xf3_ok : compFunc Tryz.prog Tryz.f3 = some xf3 := by kernel_rfl
/- threshing/threshinglaw26.works -/
def r4_0 : List XLine := [⟨⟨.mv (.const (.bool false)), some 0, none⟩, []⟩]
def r4_1 : List XLine := [⟨⟨.bslice 1 [(.int .i32 (.ofNat 0)), (.int .i32 (.ofNat 0))] [(0, 1, (.const (.int .i32 (.ofNat 2)))), (1, 1, (.const (.int .i32 (.ofNat 3))))] 2, some 1, none⟩, []⟩,
  ⟨⟨.bslice 1 [(.int .i64 (.ofNat 0)), (.int .i64 (.ofNat 0)), (.int .i64 (.ofNat 0))] [(0, 1, (.const (.int .i64 (.ofNat 1)))), (1, 1, (.const (.int .i64 (.ofNat 2)))), (2, 1, (.const (.int .i64 (.ofNat 3))))] 3, some 2, none⟩, []⟩,
  ⟨⟨.bslice 1 [(.int .i32 (.ofNat 0)), (.int .i32 (.ofNat 0)), (.int .i32 (.ofNat 0))] [(0, 1, (.const (.int .i32 (.ofNat 1)))), (1, 1, (.const (.int .i32 (.negSucc 1)))), (2, 1, (.const (.int .i32 (.negSucc 2))))] 3, some 3, none⟩, []⟩,
  ⟨⟨.bslice 1 [(.int .i32 (.ofNat 0)), (.int .i32 (.ofNat 0))] [(0, 1, (.const (.int .i32 (.negSucc 0)))), (1, 1, (.const (.int .i32 (.ofNat 2))))] 2, some 4, none⟩, []⟩,
  ⟨⟨.bslice 1 [(.int .i32 (.ofNat 0)), (.int .i32 (.ofNat 0))] [(0, 1, (.const (.int .i32 (.negSucc 0)))), (1, 1, (.const (.int .i32 (.ofNat 3))))] 2, some 5, none⟩, []⟩,
  ⟨⟨.bslice 1 [.nils, .nils, .nils] [(0, 1, (.slot 3)), (1, 1, (.slot 4)), (2, 1, (.slot 5))] 3, some 6, none⟩, []⟩,
  ⟨⟨.call (.const (.func 7 [] [])) [(.const (.int .u8 (.ofNat 2))), (.const (.int .i32 (.ofNat 1))), (.slot 1), (.slot 2), (.slot 6)], some 7, none⟩, []⟩,
  ⟨⟨.mv (.slot 7), some 0, none⟩, []⟩]
def xf4 : XFunc := ⟨(.seq (.region false r4_0)
  (.seq (.region false r4_1)
  .ret)),
  [.tmp 0]⟩
theorem xf4_ok : compFunc Tryz.prog Tryz.f4 = some xf4 := by kernel_rfl
/- (threshing/gates.Gate).Value -/
def r5_0 : List XLine := [⟨⟨.box (.slot 0), some 2, none⟩, []⟩,
  ⟨⟨.box (.slot 1), some 3, none⟩, []⟩,
  ⟨⟨.mv (.const (.bool false)), some 4, none⟩, []⟩]
def r5_1 : List XLine := [⟨⟨.mkfunc 8 [] [(.slot 2), (.slot 3)], some 8, none⟩, []⟩,
  ⟨⟨.mv (.slot 8), some 5, none⟩, []⟩]
def r5_2 : List XLine := [⟨⟨.faddr 2 (.slot 2), some 9, none⟩, []⟩,
  ⟨⟨.load false 1 (.slot 9), some 10, none⟩, []⟩,
  ⟨⟨.len .slice (.slot 10), some 11, none⟩, []⟩,
  ⟨⟨.mv (.slot 11), some 6, none⟩, []⟩]
def r5_3 : List XLine := [⟨⟨.faddr 0 (.slot 2), some 13, none⟩, []⟩,
  ⟨⟨.load false 1 (.slot 13), some 14, none⟩, []⟩,
  ⟨⟨.bin .eql 5 .num (.slot 14) (.const (.int .u8 (.ofNat 1))), some 15, none⟩, []⟩,
  ⟨⟨.mv (.slot 15), some 16, none⟩, []⟩,
  ⟨⟨.mv (.slot 6), some 17, some (16, true)⟩, []⟩,
  ⟨⟨.bin .geq 3 .num (.slot 17) (.const (.int .i64 (.ofNat 1))), some 18, some (16, true)⟩, []⟩,
  ⟨⟨.pick (.slot 16) (.slot 18) (.const (.bool false)), some 19, none⟩, []⟩,
  ⟨⟨.mv (.slot 19), some 12, none⟩, []⟩]
def r5_4 : List XLine := [⟨⟨.mv (.slot 5), some 20, none⟩, []⟩,
  ⟨⟨.call (.slot 20) [(.const (.int .i64 (.ofNat 0)))], some 21, none⟩, []⟩,
  ⟨⟨.mv (.slot 21), some 4, none⟩, []⟩]
def r5_5 : List XLine := [⟨⟨.faddr 0 (.slot 2), some 23, none⟩, []⟩,
  ⟨⟨.load false 1 (.slot 23), some 24, none⟩, []⟩,
  ⟨⟨.bin .eql 5 .num (.slot 24) (.const (.int .u8 (.ofNat 2))), some 25, none⟩, []⟩,
  ⟨⟨.mv (.slot 25), some 26, none⟩, []⟩,
  ⟨⟨.mv (.slot 6), some 27, some (26, true)⟩, []⟩,
  ⟨⟨.bin .geq 3 .num (.slot 27) (.const (.int .i64 (.ofNat 1))), some 28, some (26, true)⟩, []⟩,
  ⟨⟨.pick (.slot 26) (.slot 28) (.const (.bool false)), some 29, none⟩, []⟩,
  ⟨⟨.mv (.slot 29), some 22, none⟩, []⟩]
def r5_6 : List XLine := [⟨⟨.faddr 2 (.slot 2), some 30, none⟩, []⟩,
  ⟨⟨.load false 1 (.slot 30), some 31, none⟩, []⟩,
  ⟨⟨.len .slice (.slot 31), some 32, none⟩, []⟩,
  ⟨⟨.mv (.const (.int .i64 (.ofNat 0))), some 33, none⟩, []⟩]
def r5_7 : List XLine := [⟨⟨.bin .lss 3 .num (.slot 33) (.slot 32), some 34, none⟩, []⟩]
def r5_8 : List XLine := [⟨⟨.mv (.slot 33), some 35, none⟩, []⟩,
  ⟨⟨.mv (.slot 35), some 7, none⟩, []⟩]
def r5_9 : List XLine := [⟨⟨.mv (.slot 5), some 36, none⟩, []⟩,
  ⟨⟨.mv (.slot 7), some 37, none⟩, []⟩,
  ⟨⟨.call (.slot 36) [(.slot 37)], some 38, none⟩, []⟩,
  ⟨⟨.un .not (.slot 38), some 39, none⟩, []⟩]
def r5_10 : List XLine := [⟨⟨.mv (.const (.bool false)), some 4, none⟩, []⟩]
def r5_11 : List XLine := [⟨⟨.bin .add 3 .num (.slot 33) (.const (.int .i64 (.ofNat 1))), some 40, none⟩, []⟩,
  ⟨⟨.mv (.slot 40), some 33, none⟩, []⟩]
def r5_12 : List XLine := [⟨⟨.mv (.const (.bool true)), some 4, none⟩, []⟩]
def r5_13 : List XLine := [⟨⟨.faddr 0 (.slot 2), some 42, none⟩, []⟩,
  ⟨⟨.load false 1 (.slot 42), some 43, none⟩, []⟩,
  ⟨⟨.bin .eql 5 .num (.slot 43) (.const (.int .u8 (.ofNat 3))), some 44, none⟩, []⟩,
  ⟨⟨.mv (.slot 44), some 45, none⟩, []⟩,
  ⟨⟨.mv (.slot 6), some 46, some (45, true)⟩, []⟩,
  ⟨⟨.bin .geq 3 .num (.slot 46) (.const (.int .i64 (.ofNat 2))), some 47, some (45, true)⟩, []⟩,
  ⟨⟨.pick (.slot 45) (.slot 47) (.const (.bool false)), some 48, none⟩, []⟩,
  ⟨⟨.mv (.slot 48), some 41, none⟩, []⟩]
def r5_14 : List XLine := [⟨⟨.mv (.slot 5), some 49, none⟩, []⟩,
  ⟨⟨.call (.slot 49) [(.const (.int .i64 (.ofNat 0)))], some 50, none⟩, []⟩,
  ⟨⟨.mv (.slot 5), some 51, none⟩, []⟩,
  ⟨⟨.call (.slot 51) [(.const (.int .i64 (.ofNat 1)))], some 52, none⟩, []⟩,
  ⟨⟨.bin .neq 4 .bool (.slot 50) (.slot 52), some 53, none⟩, []⟩,
  ⟨⟨.mv (.slot 53), some 4, none⟩, []⟩]
def r5_15 : List XLine := [⟨⟨.faddr 0 (.slot 2), some 55, none⟩, []⟩,
  ⟨⟨.load false 1 (.slot 55), some 56, none⟩, []⟩,
  ⟨⟨.bin .eql 5 .num (.slot 56) (.const (.int .u8 (.ofNat 4))), some 57, none⟩, []⟩,
  ⟨⟨.mv (.slot 57), some 58, none⟩, []⟩,
  ⟨⟨.mv (.slot 6), some 59, some (58, true)⟩, []⟩,
  ⟨⟨.bin .geq 3 .num (.slot 59) (.const (.int .i64 (.ofNat 3))), some 60, some (58, true)⟩, []⟩,
  ⟨⟨.pick (.slot 58) (.slot 60) (.const (.bool false)), some 61, none⟩, []⟩,
  ⟨⟨.mv (.slot 61), some 54, none⟩, []⟩]
def r5_16 : List XLine := [⟨⟨.mv (.slot 5), some 62, none⟩, []⟩,
  ⟨⟨.call (.slot 62) [(.const (.int .i64 (.ofNat 0)))], some 63, none⟩, []⟩]
def r5_17 : List XLine := [⟨⟨.mv (.slot 5), some 64, none⟩, []⟩,
  ⟨⟨.call (.slot 64) [(.const (.int .i64 (.ofNat 1)))], some 65, none⟩, []⟩,
  ⟨⟨.mv (.slot 65), some 4, none⟩, []⟩]
def r5_18 : List XLine := [⟨⟨.mv (.slot 5), some 66, none⟩, []⟩,
  ⟨⟨.call (.slot 66) [(.const (.int .i64 (.ofNat 2)))], some 67, none⟩, []⟩,
  ⟨⟨.mv (.slot 67), some 4, none⟩, []⟩]
def r5_19 : List XLine := [⟨⟨.mv (.const (.bool false)), some 4, none⟩, []⟩]
def xf5 : XFunc := ⟨(.seq (.region false r5_0)
  (.seq (.region false r5_1)
  (.seq (.seq (.region false r5_2)
  (.block 0 (.seq (.region false r5_3)
  (.cond (.slot 12)
  (.seq (.region false r5_4)
  .ret)
  (.seq (.region false r5_5)
  (.cond (.slot 22)
  (.seq (.seq (.region false r5_6)
  (.block 1 (.loop (.seq (.region false r5_7)
  (.seq (.cond (.slot 34)
  .skip
  (.exit 1))
  (.seq (.block 2 (.seq (.region false r5_8)
  (.seq (.region false r5_9)
  (.cond (.slot 39)
  (.seq (.region false r5_10)
  .ret)
  .skip))))
  (.region false r5_11)))))))
  (.seq (.region false r5_12)
  .ret))
  (.seq (.region false r5_13)
  (.cond (.slot 41)
  (.seq (.region false r5_14)
  .ret)
  (.seq (.region false r5_15)
  (.cond (.slot 54)
  (.seq (.seq (.region false r5_16)
  (.cond (.slot 63)
  (.seq (.region false r5_17)
  .ret)
  .skip))
  (.seq (.region false r5_18)
  .ret))
  .skip))))))))))
  (.seq (.region false r5_19)
  .ret)))),
  [.tmp 4]⟩
theorem xf5_ok : compFunc Tryz.prog Tryz.f5 = some xf5 := by kernel_rfl
/- threshing/threshingref26.Value -/
def r6_0 : List XLine := [⟨⟨.box (.slot 0), some 2, none⟩, []⟩,
  ⟨⟨.mv (.const (.bool false)), some 4, none⟩, []⟩]
def r6_1 : List XLine := [⟨⟨.faddr 2 (.slot 2), some 7, none⟩, []⟩,
  ⟨⟨.load false 1 (.slot 7), some 8, none⟩, []⟩,
  ⟨⟨.len .slice (.slot 8), some 9, none⟩, []⟩,
  ⟨⟨.bin .lss 3 .num (.slot 9) (.const (.int .i64 (.ofNat 1))), some 10, none⟩, []⟩,
  ⟨⟨.mv (.slot 10), some 11, none⟩, []⟩,
  ⟨⟨.faddr 0 (.slot 2), some 12, some (11, false)⟩, []⟩,
  ⟨⟨.load false 1 (.slot 12), some 13, some (11, false)⟩, []⟩,
  ⟨⟨.bin .eql 5 .num (.slot 13) (.const (.int .u8 (.ofNat 3))), some 14, some (11, false)⟩, []⟩,
  ⟨⟨.mv (.slot 14), some 15, some (11, false)⟩, []⟩,
  ⟨⟨.faddr 2 (.slot 2), some 16, some (15, true)⟩, []⟩,
  ⟨⟨.load false 1 (.slot 16), some 17, some (15, true)⟩, []⟩,
  ⟨⟨.len .slice (.slot 17), some 18, some (15, true)⟩, []⟩,
  ⟨⟨.bin .lss 3 .num (.slot 18) (.const (.int .i64 (.ofNat 2))), some 19, some (15, true)⟩, []⟩,
  ⟨⟨.pick (.slot 15) (.slot 19) (.const (.bool false)), some 20, some (11, false)⟩, []⟩,
  ⟨⟨.pick (.slot 11) (.const (.bool true)) (.slot 20), some 21, none⟩, []⟩,
  ⟨⟨.mv (.slot 21), some 22, none⟩, []⟩,
  ⟨⟨.faddr 0 (.slot 2), some 23, some (22, false)⟩, []⟩,
  ⟨⟨.load false 1 (.slot 23), some 24, some (22, false)⟩, []⟩,
  ⟨⟨.bin .eql 5 .num (.slot 24) (.const (.int .u8 (.ofNat 4))), some 25, some (22, false)⟩, []⟩,
  ⟨⟨.mv (.slot 25), some 26, some (22, false)⟩, []⟩,
  ⟨⟨.faddr 2 (.slot 2), some 27, some (26, true)⟩, []⟩,
  ⟨⟨.load false 1 (.slot 27), some 28, some (26, true)⟩, []⟩,
  ⟨⟨.len .slice (.slot 28), some 29, some (26, true)⟩, []⟩,
  ⟨⟨.bin .lss 3 .num (.slot 29) (.const (.int .i64 (.ofNat 3))), some 30, some (26, true)⟩, []⟩,
  ⟨⟨.pick (.slot 26) (.slot 30) (.const (.bool false)), some 31, some (22, false)⟩, []⟩,
  ⟨⟨.pick (.slot 22) (.const (.bool true)) (.slot 31), some 32, none⟩, []⟩]
def r6_2 : List XLine := [⟨⟨.mv (.const (.bool false)), some 4, none⟩, []⟩]
def r6_3 : List XLine := [⟨⟨.faddr 2 (.slot 2), some 33, none⟩, []⟩,
  ⟨⟨.load false 1 (.slot 33), some 34, none⟩, []⟩,
  ⟨⟨.iaddr 1 (.slot 34) (.const (.int .i64 (.ofNat 0))), some 35, none⟩, []⟩,
  ⟨⟨.load false 1 (.slot 35), some 36, none⟩, []⟩,
  ⟨⟨.mv (.slot 1), some 37, none⟩, []⟩,
  ⟨⟨.call (.const (.func 10 [] [])) [(.slot 36), (.slot 37)], some 38, none⟩, []⟩,
  ⟨⟨.mv (.slot 38), some 5, none⟩, []⟩]
def r6_4 : List XLine := [⟨⟨.faddr 0 (.slot 2), some 39, none⟩, []⟩,
  ⟨⟨.load false 1 (.slot 39), some 40, none⟩, []⟩]
def r6_5 : List XLine := [⟨⟨.bin .eql 5 .num (.slot 40) (.const (.int .u8 (.ofNat 1))), some 42, none⟩, []⟩,
  ⟨⟨.mv (.slot 42), some 41, none⟩, []⟩]
def r6_6 : List XLine := [⟨⟨.mv (.slot 5), some 43, none⟩, []⟩,
  ⟨⟨.mv (.slot 43), some 4, none⟩, []⟩]
def r6_7 : List XLine := [⟨⟨.bin .eql 5 .num (.slot 40) (.const (.int .u8 (.ofNat 2))), some 45, none⟩, []⟩,
  ⟨⟨.mv (.slot 45), some 44, none⟩, []⟩]
def r6_8 : List XLine := [⟨⟨.mv (.const (.int .i64 (.ofNat 0))), some 6, none⟩, []⟩]
def r6_9 : List XLine := [⟨⟨.mv (.slot 6), some 46, none⟩, []⟩,
  ⟨⟨.faddr 2 (.slot 2), some 47, none⟩, []⟩,
  ⟨⟨.load false 1 (.slot 47), some 48, none⟩, []⟩,
  ⟨⟨.len .slice (.slot 48), some 49, none⟩, []⟩,
  ⟨⟨.bin .lss 3 .num (.slot 46) (.slot 49), some 50, none⟩, []⟩]
def r6_10 : List XLine := [⟨⟨.mv (.slot 5), some 53, none⟩, []⟩,
  ⟨⟨.mv (.slot 53), some 54, none⟩, []⟩,
  ⟨⟨.faddr 2 (.slot 2), some 55, some (54, true)⟩, []⟩,
  ⟨⟨.load false 1 (.slot 55), some 56, some (54, true)⟩, []⟩,
  ⟨⟨.mv (.slot 6), some 57, some (54, true)⟩, []⟩,
  ⟨⟨.iaddr 1 (.slot 56) (.slot 57), some 58, some (54, true)⟩, []⟩,
  ⟨⟨.load false 1 (.slot 58), some 59, some (54, true)⟩, []⟩,
  ⟨⟨.mv (.slot 1), some 60, some (54, true)⟩, []⟩,
  ⟨⟨.call (.const (.func 10 [] [])) [(.slot 59), (.slot 60)], some 61, some (54, true)⟩, []⟩,
  ⟨⟨.pick (.slot 54) (.slot 61) (.const (.bool false)), some 62, none⟩, []⟩,
  ⟨⟨.mv (.slot 62), some 5, none⟩, []⟩]
def r6_11 : List XLine := [⟨⟨.mv (.slot 6), some 51, none⟩, []⟩,
  ⟨⟨.bin .add 3 .num (.slot 51) (.const (.int .i64 (.ofNat 1))), some 52, none⟩, []⟩,
  ⟨⟨.mv (.slot 52), some 6, none⟩, []⟩]
def r6_12 : List XLine := [⟨⟨.mv (.slot 5), some 63, none⟩, []⟩,
  ⟨⟨.mv (.slot 63), some 4, none⟩, []⟩]
def r6_13 : List XLine := [⟨⟨.bin .eql 5 .num (.slot 40) (.const (.int .u8 (.ofNat 3))), some 65, none⟩, []⟩,
  ⟨⟨.mv (.slot 65), some 64, none⟩, []⟩]
def r6_14 : List XLine := [⟨⟨.mv (.slot 5), some 66, none⟩, []⟩,
  ⟨⟨.faddr 2 (.slot 2), some 67, none⟩, []⟩,
  ⟨⟨.load false 1 (.slot 67), some 68, none⟩, []⟩,
  ⟨⟨.iaddr 1 (.slot 68) (.const (.int .i64 (.ofNat 1))), some 69, none⟩, []⟩,
  ⟨⟨.load false 1 (.slot 69), some 70, none⟩, []⟩,
  ⟨⟨.mv (.slot 1), some 71, none⟩, []⟩,
  ⟨⟨.call (.const (.func 10 [] [])) [(.slot 70), (.slot 71)], some 72, none⟩, []⟩,
  ⟨⟨.bin .neq 4 .bool (.slot 66) (.slot 72), some 73, none⟩, []⟩,
  ⟨⟨.mv (.slot 73), some 4, none⟩, []⟩]
def r6_15 : List XLine := [⟨⟨.bin .eql 5 .num (.slot 40) (.const (.int .u8 (.ofNat 4))), some 75, none⟩, []⟩,
  ⟨⟨.mv (.slot 75), some 74, none⟩, []⟩]
def r6_16 : List XLine := [⟨⟨.mv (.slot 5), some 76, none⟩, []⟩]
def r6_17 : List XLine := [⟨⟨.faddr 2 (.slot 2), some 77, none⟩, []⟩,
  ⟨⟨.load false 1 (.slot 77), some 78, none⟩, []⟩,
  ⟨⟨.iaddr 1 (.slot 78) (.const (.int .i64 (.ofNat 1))), some 79, none⟩, []⟩,
  ⟨⟨.load false 1 (.slot 79), some 80, none⟩, []⟩,
  ⟨⟨.mv (.slot 1), some 81, none⟩, []⟩,
  ⟨⟨.call (.const (.func 10 [] [])) [(.slot 80), (.slot 81)], some 82, none⟩, []⟩,
  ⟨⟨.mv (.slot 82), some 4, none⟩, []⟩]
def r6_18 : List XLine := [⟨⟨.faddr 2 (.slot 2), some 83, none⟩, []⟩,
  ⟨⟨.load false 1 (.slot 83), some 84, none⟩, []⟩,
  ⟨⟨.iaddr 1 (.slot 84) (.const (.int .i64 (.ofNat 2))), some 85, none⟩, []⟩,
  ⟨⟨.load false 1 (.slot 85), some 86, none⟩, []⟩,
  ⟨⟨.mv (.slot 1), some 87, none⟩, []⟩,
  ⟨⟨.call (.const (.func 10 [] [])) [(.slot 86), (.slot 87)], some 88, none⟩, []⟩,
  ⟨⟨.mv (.slot 88), some 4, none⟩, []⟩]
def r6_19 : List XLine := [⟨⟨.mv (.const (.bool false)), some 4, none⟩, []⟩]
def xf6 : XFunc := ⟨(.seq (.region false r6_0)
  (.seq (.seq (.region false r6_1)
  (.cond (.slot 32)
  (.seq (.region false r6_2)
  .ret)
  .skip))
  (.seq (.region false r6_3)
  (.seq (.seq (.region false r6_4)
  (.block 0 (.seq (.region false r6_5)
  (.cond (.slot 41)
  (.seq (.region false r6_6)
  .ret)
  (.seq (.region false r6_7)
  (.cond (.slot 44)
  (.seq (.seq (.region false r6_8)
  (.block 1 (.loop (.seq (.seq (.region false r6_9)
  (.cond (.slot 50)
  .skip
  (.exit 1)))
  (.seq (.block 2 (.region false r6_10))
  (.region false r6_11))))))
  (.seq (.region false r6_12)
  .ret))
  (.seq (.region false r6_13)
  (.cond (.slot 64)
  (.seq (.region false r6_14)
  .ret)
  (.seq (.region false r6_15)
  (.cond (.slot 74)
  (.seq (.seq (.region false r6_16)
  (.cond (.slot 76)
  (.seq (.region false r6_17)
  .ret)
  .skip))
  (.seq (.region false r6_18)
  .ret))
  .skip))))))))))
  (.seq (.region false r6_19)
  .ret))))),
  [.tmp 4]⟩
theorem xf6_ok : compFunc Tryz.prog Tryz.f6 = some xf6 := by kernel_rfl
/- threshing/threshinglaw26.is -/
def r7_0 : List XLine := [⟨⟨.mv (.const (.bool false)), some 10, none⟩, []⟩]
def r7_1 : List XLine := [⟨⟨.mv (.slot 4), some 12, none⟩, []⟩,
  ⟨⟨.call (.const (.func 12 [] [])) [(.slot 12)], some 13, none⟩, []⟩,
  ⟨⟨.call (.const (.func 11 [] [])) [(.slot 13), (.const (.int .i64 (.ofNat 1)))], some 14, none⟩, []⟩,
  ⟨⟨.mv (.slot 14), some 11, none⟩, []⟩]
def r7_2 : List XLine := [⟨⟨.mv (.slot 11), some 15, none⟩, []⟩,
  ⟨⟨.len .slice (.slot 15), some 16, none⟩, []⟩,
  ⟨⟨.bin .eql 3 .num (.slot 16) (.const (.int .i64 (.ofNat 1))), some 17, none⟩, []⟩,
  ⟨⟨.mv (.slot 17), some 18, none⟩, []⟩,
  ⟨⟨.mv (.slot 11), some 19, some (18, true)⟩, []⟩,
  ⟨⟨.iaddr 4 (.slot 19) (.const (.int .i64 (.ofNat 0))), some 20, some (18, true)⟩, []⟩,
  ⟨⟨.faddr 0 (.slot 20), some 21, some (18, true)⟩, []⟩,
  ⟨⟨.load false 1 (.slot 21), some 22, some (18, true)⟩, []⟩,
  ⟨⟨.mv (.slot 0), some 23, some (18, true)⟩, []⟩,
  ⟨⟨.bin .eql 5 .num (.slot 22) (.slot 23), some 24, some (18, true)⟩, []⟩,
  ⟨⟨.pick (.slot 18) (.slot 24) (.const (.bool false)), some 25, none⟩, []⟩,
  ⟨⟨.mv (.slot 25), some 26, none⟩, []⟩,
  ⟨⟨.mv (.slot 11), some 27, some (26, true)⟩, []⟩,
  ⟨⟨.iaddr 4 (.slot 27) (.const (.int .i64 (.ofNat 0))), some 28, some (26, true)⟩, []⟩,
  ⟨⟨.faddr 1 (.slot 28), some 29, some (26, true)⟩, []⟩,
  ⟨⟨.load false 1 (.slot 29), some 30, some (26, true)⟩, []⟩,
  ⟨⟨.mv (.slot 1), some 31, some (26, true)⟩, []⟩,
  ⟨⟨.bin .eql 22 .num (.slot 30) (.slot 31), some 32, some (26, true)⟩, []⟩,
  ⟨⟨.pick (.slot 26) (.slot 32) (.const (.bool false)), some 33, none⟩, []⟩,
  ⟨⟨.mv (.slot 33), some 34, none⟩, []⟩,
  ⟨⟨.mv (.slot 11), some 35, some (34, true)⟩, []⟩,
  ⟨⟨.iaddr 4 (.slot 35) (.const (.int .i64 (.ofNat 0))), some 36, some (34, true)⟩, []⟩,
  ⟨⟨.faddr 2 (.slot 36), some 37, some (34, true)⟩, []⟩,
  ⟨⟨.load false 1 (.slot 37), some 38, some (34, true)⟩, []⟩,
  ⟨⟨.mv (.slot 2), some 39, some (34, true)⟩, []⟩,
  ⟨⟨.call (.const (.func 13 [] [])) [(.slot 38), (.slot 39)], some 40, some (34, true)⟩, []⟩,
  ⟨⟨.pick (.slot 34) (.slot 40) (.const (.bool false)), some 41, none⟩, []⟩,
  ⟨⟨.mv (.slot 41), some 42, none⟩, []⟩,
  ⟨⟨.mv (.slot 11), some 43, some (42, true)⟩, []⟩,
  ⟨⟨.iaddr 4 (.slot 43) (.const (.int .i64 (.ofNat 0))), some 44, some (42, true)⟩, []⟩,
  ⟨⟨.faddr 3 (.slot 44), some 45, some (42, true)⟩, []⟩,
  ⟨⟨.load false 1 (.slot 45), some 46, some (42, true)⟩, []⟩,
  ⟨⟨.mv (.slot 3), some 47, some (42, true)⟩, []⟩,
  ⟨⟨.call (.const (.func 14 [] [])) [(.slot 46), (.slot 47)], some 48, some (42, true)⟩, []⟩,
  ⟨⟨.pick (.slot 42) (.slot 48) (.const (.bool false)), some 49, none⟩, []⟩,
  ⟨⟨.mv (.slot 49), some 10, none⟩, []⟩]
def xf7 : XFunc := ⟨(.seq (.region false r7_0)
  (.seq (.region false r7_1)
  (.seq (.region false r7_2)
  .ret))),
  [.tmp 10]⟩
theorem xf7_ok : compFunc Tryz.prog Tryz.f7 = some xf7 := by kernel_rfl
/- (threshing/gates.Gate).Value$1 -/
def r8_0 : List XLine := [⟨⟨.mv (.const (.bool false)), some 4, none⟩, []⟩]
def r8_1 : List XLine := [⟨⟨.faddr 2 (.slot 1), some 6, none⟩, []⟩,
  ⟨⟨.load false 1 (.slot 6), some 7, none⟩, []⟩,
  ⟨⟨.mv (.slot 0), some 8, none⟩, []⟩,
  ⟨⟨.iaddr 1 (.slot 7) (.slot 8), some 9, none⟩, []⟩,
  ⟨⟨.load false 1 (.slot 9), some 10, none⟩, []⟩,
  ⟨⟨.call (.const (.func 9 [] [])) [(.slot 10)], some 11, none⟩, []⟩,
  ⟨⟨.mv (.slot 11), some 5, none⟩, []⟩]
def r8_2 : List XLine := [⟨⟨.mv (.slot 5), some 12, none⟩, []⟩,
  ⟨⟨.bin .geq 3 .num (.slot 12) (.const (.int .i64 (.ofNat 1))), some 13, none⟩, []⟩,
  ⟨⟨.mv (.slot 13), some 14, none⟩, []⟩,
  ⟨⟨.mv (.slot 5), some 15, some (14, true)⟩, []⟩,
  ⟨⟨.load false 1 (.slot 2), some 16, some (14, true)⟩, []⟩,
  ⟨⟨.len .slice (.slot 16), some 17, some (14, true)⟩, []⟩,
  ⟨⟨.bin .leq 3 .num (.slot 15) (.slot 17), some 18, some (14, true)⟩, []⟩,
  ⟨⟨.pick (.slot 14) (.slot 18) (.const (.bool false)), some 19, none⟩, []⟩,
  ⟨⟨.mv (.slot 19), some 20, none⟩, []⟩,
  ⟨⟨.load false 1 (.slot 2), some 21, some (20, true)⟩, []⟩,
  ⟨⟨.mv (.slot 5), some 22, some (20, true)⟩, []⟩,
  ⟨⟨.bin .sub 3 .num (.slot 22) (.const (.int .i64 (.ofNat 1))), some 23, some (20, true)⟩, []⟩,
  ⟨⟨.iaddr 1 (.slot 21) (.slot 23), some 24, some (20, true)⟩, []⟩,
  ⟨⟨.load false 1 (.slot 24), some 25, some (20, true)⟩, []⟩,
  ⟨⟨.faddr 2 (.slot 1), some 26, some (20, true)⟩, []⟩,
  ⟨⟨.load false 1 (.slot 26), some 27, some (20, true)⟩, []⟩,
  ⟨⟨.mv (.slot 0), some 28, some (20, true)⟩, []⟩,
  ⟨⟨.iaddr 1 (.slot 27) (.slot 28), some 29, some (20, true)⟩, []⟩,
  ⟨⟨.load false 1 (.slot 29), some 30, some (20, true)⟩, []⟩,
  ⟨⟨.bin .gtr 22 .num (.slot 30) (.const (.int .i32 (.ofNat 0))), some 31, some (20, true)⟩, []⟩,
  ⟨⟨.bin .eql 4 .bool (.slot 25) (.slot 31), some 32, some (20, true)⟩, []⟩,
  ⟨⟨.pick (.slot 20) (.slot 32) (.const (.bool false)), some 33, none⟩, []⟩,
  ⟨⟨.mv (.slot 33), some 4, none⟩, []⟩]
def xf8 : XFunc := ⟨(.seq (.region false r8_0)
  (.seq (.region false r8_1)
  (.seq (.region true r8_2)
  .ret))),
  [.tmp 4]⟩
theorem xf8_ok : compFunc Tryz.prog Tryz.f8 = some xf8 := by kernel_rfl
/- threshing/cnf.Var -/
def r9_0 : List XLine := [⟨⟨.mv (.const (.int .i64 (.ofNat 0))), some 2, none⟩, []⟩]
def r9_1 : List XLine := [⟨⟨.mv (.slot 0), some 3, none⟩, []⟩,
  ⟨⟨.call (.const (.func 15 [] [])) [(.slot 3)], some 4, none⟩, []⟩,
  ⟨⟨.mv (.slot 4), some 2, none⟩, []⟩]
def xf9 : XFunc := ⟨(.seq (.region false r9_0)
  (.seq (.region false r9_1)
  .ret)),
  [.tmp 2]⟩
theorem xf9_ok : compFunc Tryz.prog Tryz.f9 = some xf9 := by kernel_rfl
/- threshing/threshingref01.True -/
def r10_0 : List XLine := [⟨⟨.mv (.const (.bool false)), some 4, none⟩, []⟩]
def r10_1 : List XLine := [⟨⟨.mv (.slot 0), some 6, none⟩, []⟩,
  ⟨⟨.call (.const (.func 16 [] [])) [(.slot 6)], some 7, none⟩, []⟩,
  ⟨⟨.mv (.slot 7), some 5, none⟩, []⟩]
def r10_2 : List XLine := [⟨⟨.mv (.slot 5), some 8, none⟩, []⟩,
  ⟨⟨.bin .geq 3 .num (.slot 8) (.const (.int .i64 (.ofNat 1))), some 9, none⟩, []⟩,
  ⟨⟨.mv (.slot 9), some 10, none⟩, []⟩,
  ⟨⟨.mv (.slot 5), some 11, some (10, true)⟩, []⟩,
  ⟨⟨.mv (.slot 1), some 12, some (10, true)⟩, []⟩,
  ⟨⟨.len .slice (.slot 12), some 13, some (10, true)⟩, []⟩,
  ⟨⟨.bin .leq 3 .num (.slot 11) (.slot 13), some 14, some (10, true)⟩, []⟩,
  ⟨⟨.pick (.slot 10) (.slot 14) (.const (.bool false)), some 15, none⟩, []⟩,
  ⟨⟨.mv (.slot 15), some 16, none⟩, []⟩,
  ⟨⟨.mv (.slot 1), some 17, some (16, true)⟩, []⟩,
  ⟨⟨.mv (.slot 5), some 18, some (16, true)⟩, []⟩,
  ⟨⟨.bin .sub 3 .num (.slot 18) (.const (.int .i64 (.ofNat 1))), some 19, some (16, true)⟩, []⟩,
  ⟨⟨.iaddr 1 (.slot 17) (.slot 19), some 20, some (16, true)⟩, []⟩,
  ⟨⟨.load false 1 (.slot 20), some 21, some (16, true)⟩, []⟩,
  ⟨⟨.mv (.slot 0), some 22, some (16, true)⟩, []⟩,
  ⟨⟨.bin .gtr 22 .num (.slot 22) (.const (.int .i32 (.ofNat 0))), some 23, some (16, true)⟩, []⟩,
  ⟨⟨.bin .eql 4 .bool (.slot 21) (.slot 23), some 24, some (16, true)⟩, []⟩,
  ⟨⟨.pick (.slot 16) (.slot 24) (.const (.bool false)), some 25, none⟩, []⟩,
  ⟨⟨.mv (.slot 25), some 4, none⟩, []⟩]
def xf10 : XFunc := ⟨(.seq (.region false r10_0)
  (.seq (.region false r10_1)
  (.seq (.region false r10_2)
  .ret))),
  [.tmp 4]⟩
theorem xf10_ok : compFunc Tryz.prog Tryz.f10 = some xf10 := by kernel_rfl
/- threshing/gates.Find -/
def r11_0 : List XLine := [⟨⟨.mv (.const .nils), some 4, none⟩, []⟩]
def r11_1 : List XLine := [⟨⟨.mv (.slot 1), some 9, none⟩, []⟩,
  ⟨⟨.bin .lss 3 .num (.slot 9) (.const (.int .i64 (.ofNat 1))), some 10, none⟩, []⟩,
  ⟨⟨.mv (.slot 10), some 11, none⟩, []⟩,
  ⟨⟨.mv (.slot 1), some 12, some (11, false)⟩, []⟩,
  ⟨⟨.mv (.slot 0), some 13, some (11, false)⟩, []⟩,
  ⟨⟨.call (.const (.func 17 [] [])) [(.slot 13)], some 14, some (11, false)⟩, []⟩,
  ⟨⟨.bin .gtr 3 .num (.slot 12) (.slot 14), some 15, some (11, false)⟩, []⟩,
  ⟨⟨.pick (.slot 11) (.const (.bool true)) (.slot 15), some 16, none⟩, []⟩]
def r11_2 : List XLine := [⟨⟨.mv (.const .nils), some 4, none⟩, []⟩]
def r11_3 : List XLine := [⟨⟨.mv (.slot 0), some 17, none⟩, []⟩,
  ⟨⟨.mv (.slot 1), some 18, none⟩, []⟩,
  ⟨⟨.conv .i32 (.slot 18), some 19, none⟩, []⟩,
  ⟨⟨.call (.const (.func 18 [] [])) [(.slot 17), (.slot 19)], some 20, none⟩, []⟩,
  ⟨⟨.mv (.slot 20), some 5, none⟩, []⟩]
def r11_4 : List XLine := [⟨⟨.mv (.const .nils), some 6, none⟩, []⟩]
def r11_5 : List XLine := [⟨⟨.bslice 1 [.nilf, .nilf, .nilf, .nilf] [(0, 1, (.const (.func 19 [] []))), (1, 1, (.const (.func 20 [] []))), (2, 1, (.const (.func 21 [] []))), (3, 1, (.const (.func 22 [] [])))] 4, some 21, none⟩, []⟩,
  ⟨⟨.len .slice (.slot 21), some 22, none⟩, []⟩,
  ⟨⟨.mv (.const (.int .i64 (.ofNat 0))), some 23, none⟩, []⟩]
def r11_6 : List XLine := [⟨⟨.bin .lss 3 .num (.slot 23) (.slot 22), some 24, none⟩, []⟩]
def r11_7 : List XLine := [⟨⟨.iaddr 1 (.slot 21) (.slot 23), some 25, none⟩, []⟩,
  ⟨⟨.load false 1 (.slot 25), some 26, none⟩, []⟩,
  ⟨⟨.mv (.slot 26), some 8, none⟩, []⟩]
def r11_8 : List XLine := [⟨⟨.mv (.slot 6), some 27, none⟩, []⟩,
  ⟨⟨.mv (.slot 8), some 28, none⟩, []⟩,
  ⟨⟨.mv (.slot 5), some 29, none⟩, []⟩,
  ⟨⟨.call (.slot 28) [(.slot 29)], some 30, none⟩, []⟩,
  ⟨⟨.append 4 56 (.slot 27) (.slot 30), some 31, none⟩, []⟩,
  ⟨⟨.mv (.slot 31), some 6, none⟩, []⟩]
def r11_9 : List XLine := [⟨⟨.bin .add 3 .num (.slot 23) (.const (.int .i64 (.ofNat 1))), some 32, none⟩, []⟩,
  ⟨⟨.mv (.slot 32), some 23, none⟩, []⟩]
def r11_10 : List XLine := [⟨⟨.mv (.slot 6), some 33, none⟩, []⟩,
  ⟨⟨.mv (.slot 33), some 4, none⟩, []⟩]
def xf11 : XFunc := ⟨(.seq (.region false r11_0)
  (.seq (.seq (.region false r11_1)
  (.cond (.slot 16)
  (.seq (.region false r11_2)
  .ret)
  .skip))
  (.seq (.region false r11_3)
  (.seq (.region false r11_4)
  (.seq (.seq (.region false r11_5)
  (.block 0 (.loop (.seq (.region false r11_6)
  (.seq (.cond (.slot 24)
  .skip
  (.exit 0))
  (.seq (.block 1 (.seq (.region false r11_7)
  (.region false r11_8)))
  (.region false r11_9)))))))
  (.seq (.region false r11_10)
  .ret)))))),
  [.tmp 4]⟩
theorem xf11_ok : compFunc Tryz.prog Tryz.f11 = some xf11 := by kernel_rfl
/- threshing/threshinglaw26.began -/
def r12_0 : List XLine := [⟨⟨.mv (.const .nilp), some 2, none⟩, []⟩]
def r12_1 : List XLine := [⟨⟨.mv (.slot 0), some 6, none⟩, []⟩,
  ⟨⟨.build [(.int .i64 (.ofNat 0)), .nils] [(0, 1, (.const (.int .i64 (.ofNat 4)))), (1, 1, (.slot 6))], some 7, none⟩, []⟩,
  ⟨⟨.call (.const (.func 23 [] [])) [(.slot 7)], some 8, none⟩, []⟩,
  ⟨⟨.mv (.slot 8), some 5, none⟩, []⟩,
  ⟨⟨.extract (.slot 5) 0, some 9, none⟩, []⟩,
  ⟨⟨.extract (.slot 5) 1, some 10, none⟩, []⟩,
  ⟨⟨.mv (.slot 9), some 3, none⟩, []⟩,
  ⟨⟨.mv (.slot 10), some 4, none⟩, []⟩]
def r12_2 : List XLine := [⟨⟨.mv (.slot 3), some 11, none⟩, []⟩,
  ⟨⟨.mv (.slot 11), some 2, none⟩, []⟩]
def xf12 : XFunc := ⟨(.seq (.region false r12_0)
  (.seq (.region false r12_1)
  (.seq (.region false r12_2)
  .ret))),
  [.tmp 2]⟩
theorem xf12_ok : compFunc Tryz.prog Tryz.f12 = some xf12 := by kernel_rfl
/- threshing/threshingkit.SameClause -/
def r13_0 : List XLine := [⟨⟨.mv (.const (.bool false)), some 4, none⟩, []⟩]
def r13_1 : List XLine := [⟨⟨.mv (.slot 0), some 6, none⟩, []⟩,
  ⟨⟨.len .slice (.slot 6), some 7, none⟩, []⟩,
  ⟨⟨.mv (.slot 1), some 8, none⟩, []⟩,
  ⟨⟨.len .slice (.slot 8), some 9, none⟩, []⟩,
  ⟨⟨.bin .neq 3 .num (.slot 7) (.slot 9), some 10, none⟩, []⟩]
def r13_2 : List XLine := [⟨⟨.mv (.const (.bool false)), some 4, none⟩, []⟩]
def r13_3 : List XLine := [⟨⟨.mv (.const (.int .i64 (.ofNat 0))), some 5, none⟩, []⟩]
def r13_4 : List XLine := [⟨⟨.mv (.slot 5), some 11, none⟩, []⟩,
  ⟨⟨.mv (.slot 0), some 12, none⟩, []⟩,
  ⟨⟨.len .slice (.slot 12), some 13, none⟩, []⟩,
  ⟨⟨.bin .lss 3 .num (.slot 11) (.slot 13), some 14, none⟩, []⟩]
def r13_5 : List XLine := [⟨⟨.mv (.slot 0), some 17, none⟩, []⟩,
  ⟨⟨.mv (.slot 5), some 18, none⟩, []⟩,
  ⟨⟨.iaddr 1 (.slot 17) (.slot 18), some 19, none⟩, []⟩,
  ⟨⟨.load false 1 (.slot 19), some 20, none⟩, []⟩,
  ⟨⟨.mv (.slot 1), some 21, none⟩, []⟩,
  ⟨⟨.mv (.slot 5), some 22, none⟩, []⟩,
  ⟨⟨.iaddr 1 (.slot 21) (.slot 22), some 23, none⟩, []⟩,
  ⟨⟨.load false 1 (.slot 23), some 24, none⟩, []⟩,
  ⟨⟨.bin .neq 22 .num (.slot 20) (.slot 24), some 25, none⟩, []⟩]
def r13_6 : List XLine := [⟨⟨.mv (.const (.bool false)), some 4, none⟩, []⟩]
def r13_7 : List XLine := [⟨⟨.mv (.slot 5), some 15, none⟩, []⟩,
  ⟨⟨.bin .add 3 .num (.slot 15) (.const (.int .i64 (.ofNat 1))), some 16, none⟩, []⟩,
  ⟨⟨.mv (.slot 16), some 5, none⟩, []⟩]
def r13_8 : List XLine := [⟨⟨.mv (.const (.bool true)), some 4, none⟩, []⟩]
def xf13 : XFunc := ⟨(.seq (.region false r13_0)
  (.seq (.seq (.region false r13_1)
  (.cond (.slot 10)
  (.seq (.region false r13_2)
  .ret)
  .skip))
  (.seq (.seq (.region false r13_3)
  (.block 0 (.loop (.seq (.seq (.region false r13_4)
  (.cond (.slot 14)
  .skip
  (.exit 0)))
  (.seq (.block 1 (.seq (.region true r13_5)
  (.cond (.slot 25)
  (.seq (.region false r13_6)
  .ret)
  .skip)))
  (.region false r13_7))))))
  (.seq (.region false r13_8)
  .ret)))),
  [.tmp 4]⟩
theorem xf13_ok : compFunc Tryz.prog Tryz.f13 = some xf13 := by kernel_rfl
/- threshing/threshingkit.SameIDs -/
def r14_0 : List XLine := [⟨⟨.mv (.const (.bool false)), some 4, none⟩, []⟩]
def r14_1 : List XLine := [⟨⟨.mv (.slot 0), some 6, none⟩, []⟩,
  ⟨⟨.len .slice (.slot 6), some 7, none⟩, []⟩,
  ⟨⟨.mv (.slot 1), some 8, none⟩, []⟩,
  ⟨⟨.len .slice (.slot 8), some 9, none⟩, []⟩,
  ⟨⟨.bin .neq 3 .num (.slot 7) (.slot 9), some 10, none⟩, []⟩]
def r14_2 : List XLine := [⟨⟨.mv (.const (.bool false)), some 4, none⟩, []⟩]
def r14_3 : List XLine := [⟨⟨.mv (.const (.int .i64 (.ofNat 0))), some 5, none⟩, []⟩]
def r14_4 : List XLine := [⟨⟨.mv (.slot 5), some 11, none⟩, []⟩,
  ⟨⟨.mv (.slot 0), some 12, none⟩, []⟩,
  ⟨⟨.len .slice (.slot 12), some 13, none⟩, []⟩,
  ⟨⟨.bin .lss 3 .num (.slot 11) (.slot 13), some 14, none⟩, []⟩]
def r14_5 : List XLine := [⟨⟨.mv (.slot 0), some 17, none⟩, []⟩,
  ⟨⟨.mv (.slot 5), some 18, none⟩, []⟩,
  ⟨⟨.iaddr 1 (.slot 17) (.slot 18), some 19, none⟩, []⟩,
  ⟨⟨.load false 1 (.slot 19), some 20, none⟩, []⟩,
  ⟨⟨.mv (.slot 1), some 21, none⟩, []⟩,
  ⟨⟨.mv (.slot 5), some 22, none⟩, []⟩,
  ⟨⟨.iaddr 1 (.slot 21) (.slot 22), some 23, none⟩, []⟩,
  ⟨⟨.load false 1 (.slot 23), some 24, none⟩, []⟩,
  ⟨⟨.bin .neq 2 .num (.slot 20) (.slot 24), some 25, none⟩, []⟩]
def r14_6 : List XLine := [⟨⟨.mv (.const (.bool false)), some 4, none⟩, []⟩]
def r14_7 : List XLine := [⟨⟨.mv (.slot 5), some 15, none⟩, []⟩,
  ⟨⟨.bin .add 3 .num (.slot 15) (.const (.int .i64 (.ofNat 1))), some 16, none⟩, []⟩,
  ⟨⟨.mv (.slot 16), some 5, none⟩, []⟩]
def r14_8 : List XLine := [⟨⟨.mv (.const (.bool true)), some 4, none⟩, []⟩]
def xf14 : XFunc := ⟨(.seq (.region false r14_0)
  (.seq (.seq (.region false r14_1)
  (.cond (.slot 10)
  (.seq (.region false r14_2)
  .ret)
  .skip))
  (.seq (.seq (.region false r14_3)
  (.block 0 (.loop (.seq (.seq (.region false r14_4)
  (.cond (.slot 14)
  .skip
  (.exit 0)))
  (.seq (.block 1 (.seq (.region true r14_5)
  (.cond (.slot 25)
  (.seq (.region false r14_6)
  .ret)
  .skip)))
  (.region false r14_7))))))
  (.seq (.region false r14_8)
  .ret)))),
  [.tmp 4]⟩
theorem xf14_ok : compFunc Tryz.prog Tryz.f14 = some xf14 := by kernel_rfl
/- (threshing/cnf.lit).variable -/
def r15_0 : List XLine := [⟨⟨.mv (.const (.int .i64 (.ofNat 0))), some 2, none⟩, []⟩]
def r15_1 : List XLine := [⟨⟨.mv (.slot 0), some 3, none⟩, []⟩,
  ⟨⟨.bin .lss 46 .num (.slot 3) (.const (.int .i32 (.ofNat 0))), some 4, none⟩, []⟩]
def r15_2 : List XLine := [⟨⟨.mv (.slot 0), some 5, none⟩, []⟩,
  ⟨⟨.conv .i64 (.slot 5), some 6, none⟩, []⟩,
  ⟨⟨.un .neg (.slot 6), some 7, none⟩, []⟩,
  ⟨⟨.mv (.slot 7), some 2, none⟩, []⟩]
def r15_3 : List XLine := [⟨⟨.mv (.slot 0), some 8, none⟩, []⟩,
  ⟨⟨.conv .i64 (.slot 8), some 9, none⟩, []⟩,
  ⟨⟨.mv (.slot 9), some 2, none⟩, []⟩]
def xf15 : XFunc := ⟨(.seq (.region false r15_0)
  (.seq (.seq (.region false r15_1)
  (.cond (.slot 4)
  (.seq (.region false r15_2)
  .ret)
  .skip))
  (.seq (.region false r15_3)
  .ret))),
  [.tmp 2]⟩
theorem xf15_ok : compFunc Tryz.prog Tryz.f15 = some xf15 := by kernel_rfl
/- threshing/threshingref01.Var -/
def r16_0 : List XLine := [⟨⟨.mv (.const (.int .i64 (.ofNat 0))), some 2, none⟩, []⟩]
def r16_1 : List XLine := [⟨⟨.mv (.slot 0), some 3, none⟩, []⟩,
  ⟨⟨.bin .lss 22 .num (.slot 3) (.const (.int .i32 (.ofNat 0))), some 4, none⟩, []⟩]
def r16_2 : List XLine := [⟨⟨.mv (.slot 0), some 5, none⟩, []⟩,
  ⟨⟨.conv .i64 (.slot 5), some 6, none⟩, []⟩,
  ⟨⟨.un .neg (.slot 6), some 7, none⟩, []⟩,
  ⟨⟨.mv (.slot 7), some 2, none⟩, []⟩]
def r16_3 : List XLine := [⟨⟨.mv (.slot 0), some 8, none⟩, []⟩,
  ⟨⟨.conv .i64 (.slot 8), some 9, none⟩, []⟩,
  ⟨⟨.mv (.slot 9), some 2, none⟩, []⟩]
def xf16 : XFunc := ⟨(.seq (.region false r16_0)
  (.seq (.seq (.region false r16_1)
  (.cond (.slot 4)
  (.seq (.region false r16_2)
  .ret)
  .skip))
  (.seq (.region false r16_3)
  .ret))),
  [.tmp 2]⟩
theorem xf16_ok : compFunc Tryz.prog Tryz.f16 = some xf16 := by kernel_rfl
/- (*threshing/base.Base).Vars -/
def r17_0 : List XLine := [⟨⟨.mv (.const (.int .i64 (.ofNat 0))), some 2, none⟩, []⟩]
def r17_1 : List XLine := [⟨⟨.mv (.slot 0), some 3, none⟩, []⟩,
  ⟨⟨.bin .eql 42 .ptr (.slot 3) (.const .nilp), some 4, none⟩, []⟩]
def r17_2 : List XLine := [⟨⟨.mv (.const (.int .i64 (.ofNat 0))), some 2, none⟩, []⟩]
def r17_3 : List XLine := [⟨⟨.mv (.slot 0), some 5, none⟩, []⟩,
  ⟨⟨.nilCheck (.slot 5), some 6, none⟩, []⟩,
  ⟨⟨.faddr 0 (.slot 6), some 7, none⟩, []⟩,
  ⟨⟨.load false 1 (.slot 7), some 8, none⟩, []⟩,
  ⟨⟨.mv (.slot 8), some 2, none⟩, []⟩]
def xf17 : XFunc := ⟨(.seq (.region false r17_0)
  (.seq (.seq (.region false r17_1)
  (.cond (.slot 4)
  (.seq (.region false r17_2)
  .ret)
  .skip))
  (.seq (.region false r17_3)
  .ret))),
  [.tmp 2]⟩
theorem xf17_ok : compFunc Tryz.prog Tryz.f17 = some xf17 := by kernel_rfl
/- threshing/gates.of -/
def r18_0 : List XLine := [⟨⟨.mv (.const .nilp), some 4, none⟩, []⟩]
def r18_1 : List XLine := [⟨⟨.mv (.slot 0), some 17, none⟩, []⟩,
  ⟨⟨.mv (.slot 1), some 18, none⟩, []⟩,
  ⟨⟨.build [.nilp, (.int .i32 (.ofNat 0)), .nils, .nils] [(0, 1, (.slot 17)), (1, 1, (.slot 18))], some 19, none⟩, []⟩,
  ⟨⟨.box (.slot 19), some 20, none⟩, []⟩,
  ⟨⟨.mv (.slot 20), some 5, none⟩, []⟩]
def r18_2 : List XLine := [⟨⟨.mv (.slot 0), some 21, none⟩, []⟩,
  ⟨⟨.mv (.slot 1), some 22, none⟩, []⟩,
  ⟨⟨.call (.const (.func 25 [] [])) [(.slot 21), (.slot 22)], some 23, none⟩, []⟩,
  ⟨⟨.mv (.slot 0), some 24, none⟩, []⟩,
  ⟨⟨.mv (.slot 1), some 25, none⟩, []⟩,
  ⟨⟨.un .neg (.slot 25), some 26, none⟩, []⟩,
  ⟨⟨.call (.const (.func 25 [] [])) [(.slot 24), (.slot 26)], some 27, none⟩, []⟩,
  ⟨⟨.bslice 1 [.nils, .nils] [(0, 1, (.slot 23)), (1, 1, (.slot 27))] 2, some 28, none⟩, []⟩,
  ⟨⟨.call (.const (.func 24 [] [])) [(.slot 28)], some 29, none⟩, []⟩,
  ⟨⟨.mv (.slot 29), some 6, none⟩, []⟩]
def r18_3 : List XLine := [⟨⟨.mv (.slot 6), some 30, none⟩, []⟩,
  ⟨⟨.call (.const (.func 26 [] [])) [(.slot 30)], some 31, none⟩, []⟩]
def r18_4 : List XLine := [⟨⟨.mv (.const .nils), some 7, none⟩, []⟩]
def r18_5 : List XLine := [⟨⟨.mv (.slot 6), some 32, none⟩, []⟩,
  ⟨⟨.call (.const (.func 27 [] [])) [(.slot 32)], some 33, none⟩, []⟩,
  ⟨⟨.len .slice (.slot 33), some 34, none⟩, []⟩,
  ⟨⟨.mv (.const (.int .i64 (.ofNat 0))), some 35, none⟩, []⟩]
def r18_6 : List XLine := [⟨⟨.bin .lss 3 .num (.slot 35) (.slot 34), some 36, none⟩, []⟩]
def r18_7 : List XLine := [⟨⟨.iaddr 1 (.slot 33) (.slot 35), some 37, none⟩, []⟩,
  ⟨⟨.load false 1 (.slot 37), some 38, none⟩, []⟩,
  ⟨⟨.mv (.slot 38), some 9, none⟩, []⟩]
def r18_8 : List XLine := [⟨⟨.mv (.slot 0), some 40, none⟩, []⟩,
  ⟨⟨.mv (.slot 9), some 41, none⟩, []⟩,
  ⟨⟨.call (.const (.func 28 [] [])) [(.slot 40), (.slot 41)], some 42, none⟩, []⟩,
  ⟨⟨.mv (.slot 42), some 39, none⟩, []⟩,
  ⟨⟨.extract (.slot 39) 0, some 43, none⟩, []⟩,
  ⟨⟨.extract (.slot 39) 1, some 44, none⟩, []⟩,
  ⟨⟨.alloc [(.int .i64 (.ofNat 0)), .nils, (.bool false)], some 10, none⟩, []⟩,
  ⟨⟨.store 3 (.slot 10) (.slot 43), none, none⟩, []⟩,
  ⟨⟨.mv (.slot 44), some 11, none⟩, []⟩]
def r18_9 : List XLine := [⟨⟨.faddr 2 (.slot 10), some 45, none⟩, []⟩,
  ⟨⟨.load false 1 (.slot 45), some 46, none⟩, []⟩]
def r18_10 : List XLine := [⟨⟨.mv (.slot 5), some 47, none⟩, []⟩,
  ⟨⟨.mv (.slot 5), some 48, none⟩, []⟩,
  ⟨⟨.nilCheck (.slot 48), some 49, none⟩, []⟩,
  ⟨⟨.faddr 2 (.slot 49), some 50, none⟩, []⟩,
  ⟨⟨.load false 1 (.slot 50), some 51, none⟩, []⟩,
  ⟨⟨.load true 3 (.slot 10), some 52, none⟩, []⟩,
  ⟨⟨.bslice 3 [(.int .i64 (.ofNat 0)), .nils, (.bool false)] [(0, 3, (.slot 52))] 1, some 53, none⟩, [⟨.load false 1 (.slot 50), some 51, none⟩]⟩,
  ⟨⟨.append 3 40 (.slot 51) (.slot 53), some 54, none⟩, []⟩,
  ⟨⟨.nilCheck (.slot 47), some 55, none⟩, []⟩,
  ⟨⟨.faddr 2 (.slot 55), some 56, none⟩, []⟩,
  ⟨⟨.store 1 (.slot 56) (.slot 54), none, none⟩, []⟩]
def r18_11 : List XLine := [⟨⟨.faddr 1 (.slot 10), some 57, none⟩, []⟩,
  ⟨⟨.load false 1 (.slot 57), some 58, none⟩, []⟩,
  ⟨⟨.len .slice (.slot 58), some 59, none⟩, []⟩,
  ⟨⟨.mv (.const (.int .i64 (.ofNat 0))), some 60, none⟩, []⟩]
def r18_12 : List XLine := [⟨⟨.bin .lss 3 .num (.slot 60) (.slot 59), some 61, none⟩, []⟩]
def r18_13 : List XLine := [⟨⟨.iaddr 1 (.slot 58) (.slot 60), some 62, none⟩, []⟩,
  ⟨⟨.load false 1 (.slot 62), some 63, none⟩, []⟩,
  ⟨⟨.mv (.slot 63), some 13, none⟩, []⟩]
def r18_14 : List XLine := [⟨⟨.mv (.slot 7), some 64, none⟩, []⟩,
  ⟨⟨.mv (.slot 13), some 65, none⟩, []⟩,
  ⟨⟨.call (.const (.func 9 [] [])) [(.slot 65)], some 66, none⟩, []⟩,
  ⟨⟨.bslice 1 [(.int .i64 (.ofNat 0))] [(0, 1, (.slot 66))] 1, some 67, none⟩, []⟩,
  ⟨⟨.append 1 8 (.slot 64) (.slot 67), some 68, none⟩, []⟩,
  ⟨⟨.mv (.slot 68), some 7, none⟩, []⟩]
def r18_15 : List XLine := [⟨⟨.bin .add 3 .num (.slot 60) (.const (.int .i64 (.ofNat 1))), some 69, none⟩, []⟩,
  ⟨⟨.mv (.slot 69), some 60, none⟩, []⟩]
def r18_16 : List XLine := [⟨⟨.bin .add 3 .num (.slot 35) (.const (.int .i64 (.ofNat 1))), some 70, none⟩, []⟩,
  ⟨⟨.mv (.slot 70), some 35, none⟩, []⟩]
def r18_17 : List XLine := [⟨⟨.mv (.slot 7), some 71, none⟩, []⟩,
  ⟨⟨.call (.const (.func 29 [] [])) [(.slot 71)], some 72, none⟩, []⟩]
def r18_18 : List XLine := [⟨⟨.mv (.slot 7), some 73, none⟩, []⟩,
  ⟨⟨.call (.const (.func 30 [] [])) [(.slot 73)], some 74, none⟩, []⟩,
  ⟨⟨.len .slice (.slot 74), some 75, none⟩, []⟩,
  ⟨⟨.mv (.const (.int .i64 (.ofNat 0))), some 76, none⟩, []⟩]
def r18_19 : List XLine := [⟨⟨.bin .lss 3 .num (.slot 76) (.slot 75), some 77, none⟩, []⟩]
def r18_20 : List XLine := [⟨⟨.iaddr 1 (.slot 74) (.slot 76), some 78, none⟩, []⟩,
  ⟨⟨.load false 1 (.slot 78), some 79, none⟩, []⟩,
  ⟨⟨.mv (.slot 79), some 15, none⟩, []⟩]
def r18_21 : List XLine := [⟨⟨.mv (.slot 15), some 80, none⟩, []⟩,
  ⟨⟨.conv .i32 (.slot 80), some 81, none⟩, []⟩,
  ⟨⟨.mv (.slot 81), some 16, none⟩, []⟩]
def r18_22 : List XLine := [⟨⟨.mv (.slot 16), some 82, none⟩, []⟩,
  ⟨⟨.mv (.slot 1), some 83, none⟩, []⟩,
  ⟨⟨.bin .neq 22 .num (.slot 82) (.slot 83), some 84, none⟩, []⟩]
def r18_23 : List XLine := [⟨⟨.mv (.slot 5), some 85, none⟩, []⟩,
  ⟨⟨.mv (.slot 5), some 86, none⟩, []⟩,
  ⟨⟨.nilCheck (.slot 86), some 87, none⟩, []⟩,
  ⟨⟨.faddr 3 (.slot 87), some 88, none⟩, []⟩,
  ⟨⟨.load false 1 (.slot 88), some 89, none⟩, []⟩,
  ⟨⟨.mv (.slot 16), some 90, none⟩, []⟩,
  ⟨⟨.un .neg (.slot 90), some 91, none⟩, []⟩,
  ⟨⟨.mv (.slot 16), some 92, none⟩, []⟩,
  ⟨⟨.bslice 1 [(.int .i32 (.ofNat 0)), (.int .i32 (.ofNat 0))] [(0, 1, (.slot 91)), (1, 1, (.slot 92))] 2, some 93, none⟩, []⟩,
  ⟨⟨.append 1 4 (.slot 89) (.slot 93), some 94, none⟩, []⟩,
  ⟨⟨.nilCheck (.slot 85), some 95, none⟩, []⟩,
  ⟨⟨.faddr 3 (.slot 95), some 96, none⟩, []⟩,
  ⟨⟨.store 1 (.slot 96) (.slot 94), none, none⟩, []⟩]
def r18_24 : List XLine := [⟨⟨.bin .add 3 .num (.slot 76) (.const (.int .i64 (.ofNat 1))), some 97, none⟩, []⟩,
  ⟨⟨.mv (.slot 97), some 76, none⟩, []⟩]
def r18_25 : List XLine := [⟨⟨.mv (.slot 5), some 98, none⟩, []⟩,
  ⟨⟨.mv (.slot 98), some 4, none⟩, []⟩]
def xf18 : XFunc := ⟨(.seq (.region false r18_0)
  (.seq (.region false r18_1)
  (.seq (.region false r18_2)
  (.seq (.region false r18_3)
  (.seq (.region false r18_4)
  (.seq (.seq (.region false r18_5)
  (.block 0 (.loop (.seq (.region false r18_6)
  (.seq (.cond (.slot 36)
  .skip
  (.exit 0))
  (.seq (.block 1 (.seq (.region false r18_7)
  (.seq (.region false r18_8)
  (.seq (.seq (.region false r18_9)
  (.cond (.slot 46)
  (.exit 1)
  .skip))
  (.seq (.region true r18_10)
  (.seq (.region false r18_11)
  (.block 2 (.loop (.seq (.region false r18_12)
  (.seq (.cond (.slot 61)
  .skip
  (.exit 2))
  (.seq (.block 3 (.seq (.region false r18_13)
  (.region false r18_14)))
  (.region false r18_15))))))))))))
  (.region false r18_16)))))))
  (.seq (.region false r18_17)
  (.seq (.seq (.region false r18_18)
  (.block 4 (.loop (.seq (.region false r18_19)
  (.seq (.cond (.slot 77)
  .skip
  (.exit 4))
  (.seq (.block 5 (.seq (.region false r18_20)
  (.seq (.region false r18_21)
  (.seq (.region false r18_22)
  (.cond (.slot 84)
  (.region false r18_23)
  .skip)))))
  (.region false r18_24)))))))
  (.seq (.region false r18_25)
  .ret))))))))),
  [.tmp 4]⟩
theorem xf18_ok : compFunc Tryz.prog Tryz.f18 = some xf18 := by kernel_rfl
/- (*threshing/gates.finder).equals -/
def r19_0 : List XLine := [⟨⟨.mv (.const .nils), some 2, none⟩, []⟩]
def r19_1 : List XLine := [⟨⟨.mv (.slot 0), some 7, none⟩, []⟩,
  ⟨⟨.nilCheck (.slot 7), some 8, none⟩, []⟩,
  ⟨⟨.faddr 3 (.slot 8), some 9, none⟩, []⟩,
  ⟨⟨.load false 1 (.slot 9), some 10, none⟩, []⟩,
  ⟨⟨.len .slice (.slot 10), some 11, none⟩, []⟩,
  ⟨⟨.mv (.const (.int .i64 (.ofNat 0))), some 12, none⟩, []⟩]
def r19_2 : List XLine := [⟨⟨.bin .lss 3 .num (.slot 12) (.slot 11), some 13, none⟩, []⟩]
def r19_3 : List XLine := [⟨⟨.iaddr 1 (.slot 10) (.slot 12), some 14, none⟩, []⟩,
  ⟨⟨.load false 1 (.slot 14), some 15, none⟩, []⟩,
  ⟨⟨.mv (.slot 15), some 4, none⟩, []⟩]
def r19_4 : List XLine := [⟨⟨.mv (.slot 0), some 17, none⟩, []⟩,
  ⟨⟨.mv (.slot 0), some 18, none⟩, []⟩,
  ⟨⟨.nilCheck (.slot 18), some 19, none⟩, []⟩,
  ⟨⟨.faddr 1 (.slot 19), some 20, none⟩, []⟩,
  ⟨⟨.load false 1 (.slot 20), some 21, none⟩, []⟩,
  ⟨⟨.un .neg (.slot 21), some 22, none⟩, []⟩,
  ⟨⟨.mv (.slot 4), some 23, none⟩, []⟩,
  ⟨⟨.mv (.slot 0), some 25, none⟩, []⟩,
  ⟨⟨.nilCheck (.slot 25), some 26, none⟩, []⟩,
  ⟨⟨.faddr 1 (.slot 26), some 27, none⟩, []⟩,
  ⟨⟨.load false 1 (.slot 27), some 28, none⟩, []⟩,
  ⟨⟨.mv (.slot 4), some 29, none⟩, []⟩,
  ⟨⟨.un .neg (.slot 29), some 30, none⟩, []⟩,
  ⟨⟨.bslice 1 [(.int .i32 (.ofNat 0)), (.int .i32 (.ofNat 0))] [(0, 1, (.slot 22)), (1, 1, (.slot 23))] 2, some 24, none⟩, [⟨.load false 1 (.slot 27), some 28, none⟩]⟩,
  ⟨⟨.bslice 1 [(.int .i32 (.ofNat 0)), (.int .i32 (.ofNat 0))] [(0, 1, (.slot 28)), (1, 1, (.slot 30))] 2, some 31, none⟩, [⟨.load false 1 (.slot 20), some 21, none⟩]⟩,
  ⟨⟨.bslice 1 [.nils, .nils] [(0, 1, (.slot 24)), (1, 1, (.slot 31))] 2, some 32, none⟩, []⟩,
  ⟨⟨.call (.const (.func 31 [] [])) [(.slot 17), (.slot 32)], some 33, none⟩, []⟩,
  ⟨⟨.mv (.slot 33), some 16, none⟩, []⟩,
  ⟨⟨.extract (.slot 16) 0, some 34, none⟩, []⟩,
  ⟨⟨.extract (.slot 16) 1, some 35, none⟩, []⟩,
  ⟨⟨.mv (.slot 34), some 5, none⟩, []⟩,
  ⟨⟨.mv (.slot 35), some 6, none⟩, []⟩]
def r19_5 : List XLine := [⟨⟨.mv (.slot 6), some 36, none⟩, []⟩]
def r19_6 : List XLine := [⟨⟨.mv (.slot 2), some 37, none⟩, []⟩,
  ⟨⟨.mv (.slot 0), some 38, none⟩, []⟩,
  ⟨⟨.nilCheck (.slot 38), some 39, none⟩, []⟩,
  ⟨⟨.faddr 1 (.slot 39), some 40, none⟩, []⟩,
  ⟨⟨.load false 1 (.slot 40), some 41, none⟩, []⟩,
  ⟨⟨.mv (.slot 4), some 42, none⟩, []⟩,
  ⟨⟨.bslice 1 [(.int .i32 (.ofNat 0))] [(0, 1, (.slot 42))] 1, some 43, none⟩, []⟩,
  ⟨⟨.mv (.slot 5), some 44, none⟩, []⟩,
  ⟨⟨.build [(.int .u8 (.ofNat 0)), (.int .i32 (.ofNat 0)), .nils, .nils] [(0, 1, (.const (.int .u8 (.ofNat 1)))), (1, 1, (.slot 41)), (2, 1, (.slot 43)), (3, 1, (.slot 44))], some 45, none⟩, []⟩,
  ⟨⟨.bslice 4 [(.int .u8 (.ofNat 0)), (.int .i32 (.ofNat 0)), .nils, .nils] [(0, 4, (.slot 45))] 1, some 46, none⟩, []⟩,
  ⟨⟨.append 4 56 (.slot 37) (.slot 46), some 47, none⟩, []⟩,
  ⟨⟨.mv (.slot 47), some 2, none⟩, []⟩]
def r19_7 : List XLine := [⟨⟨.bin .add 3 .num (.slot 12) (.const (.int .i64 (.ofNat 1))), some 48, none⟩, []⟩,
  ⟨⟨.mv (.slot 48), some 12, none⟩, []⟩]
def r19_8 : List XLine := [⟨⟨.mv (.slot 2), some 49, none⟩, []⟩,
  ⟨⟨.mv (.slot 49), some 2, none⟩, []⟩]
def xf19 : XFunc := ⟨(.seq (.region false r19_0)
  (.seq (.seq (.region false r19_1)
  (.block 0 (.loop (.seq (.region false r19_2)
  (.seq (.cond (.slot 13)
  .skip
  (.exit 0))
  (.seq (.block 1 (.seq (.region false r19_3)
  (.seq (.region true r19_4)
  (.seq (.region false r19_5)
  (.cond (.slot 36)
  (.region false r19_6)
  .skip)))))
  (.region false r19_7)))))))
  (.seq (.region false r19_8)
  .ret))),
  [.tmp 2]⟩
theorem xf19_ok : compFunc Tryz.prog Tryz.f19 = some xf19 := by kernel_rfl
/- (*threshing/gates.finder).ands -/
def r20_0 : List XLine := [⟨⟨.mv (.const .nils), some 2, none⟩, []⟩]
def r20_1 : List XLine := [⟨⟨.mv (.slot 0), some 17, none⟩, []⟩,
  ⟨⟨.nilCheck (.slot 17), some 18, none⟩, []⟩,
  ⟨⟨.faddr 1 (.slot 18), some 19, none⟩, []⟩,
  ⟨⟨.load false 1 (.slot 19), some 20, none⟩, []⟩,
  ⟨⟨.mv (.slot 0), some 21, none⟩, []⟩,
  ⟨⟨.nilCheck (.slot 21), some 22, none⟩, []⟩,
  ⟨⟨.faddr 1 (.slot 22), some 23, none⟩, []⟩,
  ⟨⟨.load false 1 (.slot 23), some 24, none⟩, []⟩,
  ⟨⟨.un .neg (.slot 24), some 25, none⟩, []⟩,
  ⟨⟨.mv (.const (.int .i64 (.ofNat 0))), some 28, none⟩, []⟩,
  ⟨⟨.bslice 1 [(.int .i32 (.ofNat 0)), (.int .i32 (.ofNat 0))] [(0, 1, (.slot 20)), (1, 1, (.slot 25))] 2, some 26, none⟩, []⟩,
  ⟨⟨.len .slice (.slot 26), some 27, none⟩, []⟩]
def r20_2 : List XLine := [⟨⟨.bin .lss 3 .num (.slot 28) (.slot 27), some 29, none⟩, []⟩]
def r20_3 : List XLine := [⟨⟨.iaddr 1 (.slot 26) (.slot 28), some 30, none⟩, []⟩,
  ⟨⟨.load false 1 (.slot 30), some 31, none⟩, []⟩,
  ⟨⟨.mv (.slot 31), some 4, none⟩, []⟩]
def r20_4 : List XLine := [⟨⟨.mv (.slot 0), some 32, none⟩, []⟩,
  ⟨⟨.nilCheck (.slot 32), some 33, none⟩, []⟩,
  ⟨⟨.faddr 2 (.slot 33), some 34, none⟩, []⟩,
  ⟨⟨.load false 1 (.slot 34), some 35, none⟩, []⟩,
  ⟨⟨.len .slice (.slot 35), some 36, none⟩, []⟩,
  ⟨⟨.mv (.const (.int .i64 (.ofNat 0))), some 37, none⟩, []⟩]
def r20_5 : List XLine := [⟨⟨.bin .lss 3 .num (.slot 37) (.slot 36), some 38, none⟩, []⟩]
def r20_6 : List XLine := [⟨⟨.iaddr 3 (.slot 35) (.slot 37), some 39, none⟩, []⟩,
  ⟨⟨.load true 3 (.slot 39), some 40, none⟩, []⟩,
  ⟨⟨.alloc [(.int .i64 (.ofNat 0)), .nils, (.bool false)], some 6, none⟩, []⟩,
  ⟨⟨.store 3 (.slot 6) (.slot 40), none, none⟩, []⟩]
def r20_7 : List XLine := [⟨⟨.faddr 1 (.slot 6), some 42, none⟩, []⟩,
  ⟨⟨.load false 1 (.slot 42), some 43, none⟩, []⟩,
  ⟨⟨.call (.const (.func 32 [] [])) [(.slot 43)], some 44, none⟩, []⟩,
  ⟨⟨.mv (.slot 44), some 41, none⟩, []⟩,
  ⟨⟨.extract (.slot 41) 0, some 45, none⟩, []⟩,
  ⟨⟨.extract (.slot 41) 1, some 46, none⟩, []⟩,
  ⟨⟨.mv (.slot 45), some 7, none⟩, []⟩,
  ⟨⟨.mv (.slot 46), some 8, none⟩, []⟩]
def r20_8 : List XLine := [⟨⟨.mv (.slot 8), some 47, none⟩, []⟩,
  ⟨⟨.mv (.slot 47), some 48, none⟩, []⟩,
  ⟨⟨.mv (.slot 7), some 49, some (48, false)⟩, []⟩,
  ⟨⟨.len .slice (.slot 49), some 50, some (48, false)⟩, []⟩,
  ⟨⟨.bin .lss 3 .num (.slot 50) (.const (.int .i64 (.ofNat 3))), some 51, some (48, false)⟩, []⟩,
  ⟨⟨.pick (.slot 48) (.const (.bool true)) (.slot 51), some 52, none⟩, []⟩,
  ⟨⟨.mv (.slot 52), some 53, none⟩, []⟩,
  ⟨⟨.mv (.slot 7), some 54, some (53, false)⟩, []⟩,
  ⟨⟨.mv (.slot 4), some 55, some (53, false)⟩, []⟩,
  ⟨⟨.call (.const (.func 33 [] [])) [(.slot 54), (.slot 55)], some 56, some (53, false)⟩, []⟩,
  ⟨⟨.un .not (.slot 56), some 57, some (53, false)⟩, []⟩,
  ⟨⟨.pick (.slot 53) (.const (.bool true)) (.slot 57), some 58, none⟩, []⟩]
def r20_9 : List XLine := [⟨⟨.mv (.const .nils), some 9, none⟩, []⟩]
def r20_10 : List XLine := [⟨⟨.mv (.slot 7), some 59, none⟩, []⟩,
  ⟨⟨.len .slice (.slot 59), some 60, none⟩, []⟩,
  ⟨⟨.mv (.const (.int .i64 (.ofNat 0))), some 61, none⟩, []⟩]
def r20_11 : List XLine := [⟨⟨.bin .lss 3 .num (.slot 61) (.slot 60), some 62, none⟩, []⟩]
def r20_12 : List XLine := [⟨⟨.iaddr 1 (.slot 59) (.slot 61), some 63, none⟩, []⟩,
  ⟨⟨.load false 1 (.slot 63), some 64, none⟩, []⟩,
  ⟨⟨.mv (.slot 64), some 11, none⟩, []⟩]
def r20_13 : List XLine := [⟨⟨.mv (.slot 11), some 65, none⟩, []⟩,
  ⟨⟨.mv (.slot 4), some 66, none⟩, []⟩,
  ⟨⟨.bin .neq 22 .num (.slot 65) (.slot 66), some 67, none⟩, []⟩]
def r20_14 : List XLine := [⟨⟨.mv (.slot 9), some 68, none⟩, []⟩,
  ⟨⟨.mv (.slot 11), some 69, none⟩, []⟩,
  ⟨⟨.un .neg (.slot 69), some 70, none⟩, []⟩,
  ⟨⟨.bslice 1 [(.int .i32 (.ofNat 0))] [(0, 1, (.slot 70))] 1, some 71, none⟩, []⟩,
  ⟨⟨.append 1 4 (.slot 68) (.slot 71), some 72, none⟩, []⟩,
  ⟨⟨.mv (.slot 72), some 9, none⟩, []⟩]
def r20_15 : List XLine := [⟨⟨.bin .add 3 .num (.slot 61) (.const (.int .i64 (.ofNat 1))), some 73, none⟩, []⟩,
  ⟨⟨.mv (.slot 73), some 61, none⟩, []⟩]
def r20_16 : List XLine := [⟨⟨.mv (.slot 9), some 74, none⟩, []⟩,
  ⟨⟨.len .slice (.slot 74), some 75, none⟩, []⟩,
  ⟨⟨.mkslice [.nils] 24 (.slot 75) (.slot 75), some 76, none⟩, []⟩,
  ⟨⟨.mv (.slot 76), some 12, none⟩, []⟩]
def r20_17 : List XLine := [⟨⟨.mv (.slot 9), some 77, none⟩, []⟩,
  ⟨⟨.len .slice (.slot 77), some 78, none⟩, []⟩,
  ⟨⟨.mv (.const (.int .i64 (.ofNat 0))), some 79, none⟩, []⟩]
def r20_18 : List XLine := [⟨⟨.bin .lss 3 .num (.slot 79) (.slot 78), some 80, none⟩, []⟩]
def r20_19 : List XLine := [⟨⟨.mv (.slot 79), some 81, none⟩, []⟩,
  ⟨⟨.iaddr 1 (.slot 77) (.slot 79), some 82, none⟩, []⟩,
  ⟨⟨.load false 1 (.slot 82), some 83, none⟩, []⟩,
  ⟨⟨.mv (.slot 81), some 13, none⟩, []⟩,
  ⟨⟨.mv (.slot 83), some 14, none⟩, []⟩]
def r20_20 : List XLine := [⟨⟨.mv (.slot 12), some 84, none⟩, []⟩,
  ⟨⟨.mv (.slot 13), some 85, none⟩, []⟩,
  ⟨⟨.mv (.slot 4), some 86, none⟩, []⟩,
  ⟨⟨.un .neg (.slot 86), some 87, none⟩, []⟩,
  ⟨⟨.mv (.slot 14), some 88, none⟩, []⟩,
  ⟨⟨.bslice 1 [(.int .i32 (.ofNat 0)), (.int .i32 (.ofNat 0))] [(0, 1, (.slot 87)), (1, 1, (.slot 88))] 2, some 89, none⟩, []⟩,
  ⟨⟨.iaddr 1 (.slot 84) (.slot 85), some 90, none⟩, []⟩,
  ⟨⟨.store 1 (.slot 90) (.slot 89), none, none⟩, []⟩]
def r20_21 : List XLine := [⟨⟨.bin .add 3 .num (.slot 79) (.const (.int .i64 (.ofNat 1))), some 91, none⟩, []⟩,
  ⟨⟨.mv (.slot 91), some 79, none⟩, []⟩]
def r20_22 : List XLine := [⟨⟨.mv (.slot 0), some 93, none⟩, []⟩,
  ⟨⟨.mv (.slot 12), some 94, none⟩, []⟩,
  ⟨⟨.call (.const (.func 31 [] [])) [(.slot 93), (.slot 94)], some 95, none⟩, []⟩,
  ⟨⟨.mv (.slot 95), some 92, none⟩, []⟩,
  ⟨⟨.extract (.slot 92) 0, some 96, none⟩, []⟩,
  ⟨⟨.extract (.slot 92) 1, some 97, none⟩, []⟩,
  ⟨⟨.mv (.slot 96), some 15, none⟩, []⟩,
  ⟨⟨.mv (.slot 97), some 16, none⟩, []⟩]
def r20_23 : List XLine := [⟨⟨.mv (.slot 16), some 98, none⟩, []⟩]
def r20_24 : List XLine := [⟨⟨.mv (.slot 2), some 99, none⟩, []⟩,
  ⟨⟨.mv (.slot 4), some 100, none⟩, []⟩,
  ⟨⟨.mv (.slot 9), some 101, none⟩, []⟩,
  ⟨⟨.faddr 0 (.slot 6), some 102, none⟩, []⟩,
  ⟨⟨.load false 1 (.slot 102), some 103, none⟩, []⟩,
  ⟨⟨.bslice 1 [(.int .i64 (.ofNat 0))] [(0, 1, (.slot 103))] 1, some 104, none⟩, []⟩,
  ⟨⟨.mv (.slot 15), some 105, none⟩, []⟩,
  ⟨⟨.bslice 1 [.nils, .nils] [(0, 1, (.slot 104)), (1, 1, (.slot 105))] 2, some 106, none⟩, []⟩,
  ⟨⟨.call (.const (.func 24 [] [])) [(.slot 106)], some 107, none⟩, []⟩,
  ⟨⟨.build [(.int .u8 (.ofNat 0)), (.int .i32 (.ofNat 0)), .nils, .nils] [(0, 1, (.const (.int .u8 (.ofNat 2)))), (1, 1, (.slot 100)), (2, 1, (.slot 101)), (3, 1, (.slot 107))], some 108, none⟩, []⟩,
  ⟨⟨.bslice 4 [(.int .u8 (.ofNat 0)), (.int .i32 (.ofNat 0)), .nils, .nils] [(0, 4, (.slot 108))] 1, some 109, none⟩, []⟩,
  ⟨⟨.append 4 56 (.slot 99) (.slot 109), some 110, none⟩, []⟩,
  ⟨⟨.mv (.slot 110), some 2, none⟩, []⟩]
def r20_25 : List XLine := [⟨⟨.bin .add 3 .num (.slot 37) (.const (.int .i64 (.ofNat 1))), some 111, none⟩, []⟩,
  ⟨⟨.mv (.slot 111), some 37, none⟩, []⟩]
def r20_26 : List XLine := [⟨⟨.bin .add 3 .num (.slot 28) (.const (.int .i64 (.ofNat 1))), some 112, none⟩, []⟩,
  ⟨⟨.mv (.slot 112), some 28, none⟩, []⟩]
def r20_27 : List XLine := [⟨⟨.mv (.slot 2), some 113, none⟩, []⟩,
  ⟨⟨.mv (.slot 113), some 2, none⟩, []⟩]
def xf20 : XFunc := ⟨(.seq (.region false r20_0)
  (.seq (.seq (.region true r20_1)
  (.block 0 (.loop (.seq (.region false r20_2)
  (.seq (.cond (.slot 29)
  .skip
  (.exit 0))
  (.seq (.block 1 (.seq (.region false r20_3)
  (.seq (.region false r20_4)
  (.block 2 (.loop (.seq (.region false r20_5)
  (.seq (.cond (.slot 38)
  .skip
  (.exit 2))
  (.seq (.block 3 (.seq (.region false r20_6)
  (.seq (.region false r20_7)
  (.seq (.seq (.region false r20_8)
  (.cond (.slot 58)
  (.exit 3)
  .skip))
  (.seq (.region false r20_9)
  (.seq (.seq (.region false r20_10)
  (.block 4 (.loop (.seq (.region false r20_11)
  (.seq (.cond (.slot 62)
  .skip
  (.exit 4))
  (.seq (.block 5 (.seq (.region false r20_12)
  (.seq (.region false r20_13)
  (.cond (.slot 67)
  (.region false r20_14)
  .skip))))
  (.region false r20_15)))))))
  (.seq (.region false r20_16)
  (.seq (.seq (.region false r20_17)
  (.block 6 (.loop (.seq (.region false r20_18)
  (.seq (.cond (.slot 80)
  .skip
  (.exit 6))
  (.seq (.block 7 (.seq (.region false r20_19)
  (.region false r20_20)))
  (.region false r20_21)))))))
  (.seq (.region false r20_22)
  (.seq (.region false r20_23)
  (.cond (.slot 98)
  (.region false r20_24)
  .skip)))))))))))
  (.region false r20_25)))))))))
  (.region false r20_26)))))))
  (.seq (.region false r20_27)
  .ret))),
  [.tmp 2]⟩
theorem xf20_ok : compFunc Tryz.prog Tryz.f20 = some xf20 := by kernel_rfl
/- (*threshing/gates.finder).xors -/
def r21_0 : List XLine := [⟨⟨.mv (.const .nils), some 2, none⟩, []⟩]
def r21_1 : List XLine := [⟨⟨.mv (.slot 0), some 9, none⟩, []⟩,
  ⟨⟨.nilCheck (.slot 9), some 10, none⟩, []⟩,
  ⟨⟨.faddr 3 (.slot 10), some 11, none⟩, []⟩,
  ⟨⟨.load false 1 (.slot 11), some 12, none⟩, []⟩,
  ⟨⟨.len .slice (.slot 12), some 13, none⟩, []⟩,
  ⟨⟨.mv (.const (.int .i64 (.ofNat 0))), some 14, none⟩, []⟩]
def r21_2 : List XLine := [⟨⟨.bin .lss 3 .num (.slot 14) (.slot 13), some 15, none⟩, []⟩]
def r21_3 : List XLine := [⟨⟨.iaddr 1 (.slot 12) (.slot 14), some 16, none⟩, []⟩,
  ⟨⟨.load false 1 (.slot 16), some 17, none⟩, []⟩,
  ⟨⟨.mv (.slot 17), some 4, none⟩, []⟩]
def r21_4 : List XLine := [⟨⟨.mv (.slot 0), some 18, none⟩, []⟩,
  ⟨⟨.nilCheck (.slot 18), some 19, none⟩, []⟩,
  ⟨⟨.faddr 3 (.slot 19), some 20, none⟩, []⟩,
  ⟨⟨.load false 1 (.slot 20), some 21, none⟩, []⟩,
  ⟨⟨.len .slice (.slot 21), some 22, none⟩, []⟩,
  ⟨⟨.mv (.const (.int .i64 (.ofNat 0))), some 23, none⟩, []⟩]
def r21_5 : List XLine := [⟨⟨.bin .lss 3 .num (.slot 23) (.slot 22), some 24, none⟩, []⟩]
def r21_6 : List XLine := [⟨⟨.iaddr 1 (.slot 21) (.slot 23), some 25, none⟩, []⟩,
  ⟨⟨.load false 1 (.slot 25), some 26, none⟩, []⟩,
  ⟨⟨.mv (.slot 26), some 6, none⟩, []⟩]
def r21_7 : List XLine := [⟨⟨.mv (.slot 6), some 27, none⟩, []⟩,
  ⟨⟨.bin .lss 22 .num (.slot 27) (.const (.int .i32 (.ofNat 0))), some 28, none⟩, []⟩,
  ⟨⟨.mv (.slot 28), some 29, none⟩, []⟩,
  ⟨⟨.mv (.slot 6), some 30, some (29, false)⟩, []⟩,
  ⟨⟨.conv .i64 (.slot 30), some 31, some (29, false)⟩, []⟩,
  ⟨⟨.mv (.slot 4), some 32, some (29, false)⟩, []⟩,
  ⟨⟨.call (.const (.func 9 [] [])) [(.slot 32)], some 33, some (29, false)⟩, []⟩,
  ⟨⟨.bin .leq 3 .num (.slot 31) (.slot 33), some 34, some (29, false)⟩, []⟩,
  ⟨⟨.pick (.slot 29) (.const (.bool true)) (.slot 34), some 35, none⟩, []⟩]
def r21_8 : List XLine := [⟨⟨.mv (.slot 0), some 37, none⟩, []⟩,
  ⟨⟨.mv (.slot 0), some 38, none⟩, []⟩,
  ⟨⟨.nilCheck (.slot 38), some 39, none⟩, []⟩,
  ⟨⟨.faddr 1 (.slot 39), some 40, none⟩, []⟩,
  ⟨⟨.load false 1 (.slot 40), some 41, none⟩, []⟩,
  ⟨⟨.un .neg (.slot 41), some 42, none⟩, []⟩,
  ⟨⟨.mv (.slot 4), some 43, none⟩, []⟩,
  ⟨⟨.mv (.slot 6), some 44, none⟩, []⟩,
  ⟨⟨.mv (.slot 0), some 46, none⟩, []⟩,
  ⟨⟨.nilCheck (.slot 46), some 47, none⟩, []⟩,
  ⟨⟨.faddr 1 (.slot 47), some 48, none⟩, []⟩,
  ⟨⟨.load false 1 (.slot 48), some 49, none⟩, []⟩,
  ⟨⟨.un .neg (.slot 49), some 50, none⟩, []⟩,
  ⟨⟨.mv (.slot 4), some 51, none⟩, []⟩,
  ⟨⟨.un .neg (.slot 51), some 52, none⟩, []⟩,
  ⟨⟨.mv (.slot 6), some 53, none⟩, []⟩,
  ⟨⟨.un .neg (.slot 53), some 54, none⟩, []⟩,
  ⟨⟨.mv (.slot 0), some 56, none⟩, []⟩,
  ⟨⟨.nilCheck (.slot 56), some 57, none⟩, []⟩,
  ⟨⟨.faddr 1 (.slot 57), some 58, none⟩, []⟩,
  ⟨⟨.load false 1 (.slot 58), some 59, none⟩, []⟩,
  ⟨⟨.mv (.slot 4), some 60, none⟩, []⟩,
  ⟨⟨.un .neg (.slot 60), some 61, none⟩, []⟩,
  ⟨⟨.mv (.slot 6), some 62, none⟩, []⟩,
  ⟨⟨.mv (.slot 0), some 64, none⟩, []⟩,
  ⟨⟨.nilCheck (.slot 64), some 65, none⟩, []⟩,
  ⟨⟨.faddr 1 (.slot 65), some 66, none⟩, []⟩,
  ⟨⟨.load false 1 (.slot 66), some 67, none⟩, []⟩,
  ⟨⟨.mv (.slot 4), some 68, none⟩, []⟩,
  ⟨⟨.mv (.slot 6), some 69, none⟩, []⟩,
  ⟨⟨.un .neg (.slot 69), some 70, none⟩, []⟩,
  ⟨⟨.bslice 1 [(.int .i32 (.ofNat 0)), (.int .i32 (.ofNat 0)), (.int .i32 (.ofNat 0))] [(0, 1, (.slot 42)), (1, 1, (.slot 43)), (2, 1, (.slot 44))] 3, some 45, none⟩, [⟨.load false 1 (.slot 48), some 49, none⟩, ⟨.load false 1 (.slot 58), some 59, none⟩, ⟨.load false 1 (.slot 66), some 67, none⟩]⟩,
  ⟨⟨.bslice 1 [(.int .i32 (.ofNat 0)), (.int .i32 (.ofNat 0)), (.int .i32 (.ofNat 0))] [(0, 1, (.slot 50)), (1, 1, (.slot 52)), (2, 1, (.slot 54))] 3, some 55, none⟩, [⟨.load false 1 (.slot 40), some 41, none⟩, ⟨.load false 1 (.slot 58), some 59, none⟩, ⟨.load false 1 (.slot 66), some 67, none⟩]⟩,
  ⟨⟨.bslice 1 [(.int .i32 (.ofNat 0)), (.int .i32 (.ofNat 0)), (.int .i32 (.ofNat 0))] [(0, 1, (.slot 59)), (1, 1, (.slot 61)), (2, 1, (.slot 62))] 3, some 63, none⟩, [⟨.load false 1 (.slot 40), some 41, none⟩, ⟨.load false 1 (.slot 48), some 49, none⟩, ⟨.load false 1 (.slot 66), some 67, none⟩]⟩,
  ⟨⟨.bslice 1 [(.int .i32 (.ofNat 0)), (.int .i32 (.ofNat 0)), (.int .i32 (.ofNat 0))] [(0, 1, (.slot 67)), (1, 1, (.slot 68)), (2, 1, (.slot 70))] 3, some 71, none⟩, [⟨.load false 1 (.slot 40), some 41, none⟩, ⟨.load false 1 (.slot 48), some 49, none⟩, ⟨.load false 1 (.slot 58), some 59, none⟩]⟩,
  ⟨⟨.bslice 1 [.nils, .nils, .nils, .nils] [(0, 1, (.slot 45)), (1, 1, (.slot 55)), (2, 1, (.slot 63)), (3, 1, (.slot 71))] 4, some 72, none⟩, []⟩,
  ⟨⟨.call (.const (.func 31 [] [])) [(.slot 37), (.slot 72)], some 73, none⟩, []⟩,
  ⟨⟨.mv (.slot 73), some 36, none⟩, []⟩,
  ⟨⟨.extract (.slot 36) 0, some 74, none⟩, []⟩,
  ⟨⟨.extract (.slot 36) 1, some 75, none⟩, []⟩,
  ⟨⟨.mv (.slot 74), some 7, none⟩, []⟩,
  ⟨⟨.mv (.slot 75), some 8, none⟩, []⟩]
def r21_9 : List XLine := [⟨⟨.mv (.slot 8), some 76, none⟩, []⟩]
def r21_10 : List XLine := [⟨⟨.mv (.slot 2), some 77, none⟩, []⟩,
  ⟨⟨.mv (.slot 0), some 78, none⟩, []⟩,
  ⟨⟨.nilCheck (.slot 78), some 79, none⟩, []⟩,
  ⟨⟨.faddr 1 (.slot 79), some 80, none⟩, []⟩,
  ⟨⟨.load false 1 (.slot 80), some 81, none⟩, []⟩,
  ⟨⟨.mv (.slot 4), some 82, none⟩, []⟩,
  ⟨⟨.mv (.slot 6), some 83, none⟩, []⟩,
  ⟨⟨.bslice 1 [(.int .i32 (.ofNat 0)), (.int .i32 (.ofNat 0))] [(0, 1, (.slot 82)), (1, 1, (.slot 83))] 2, some 84, none⟩, []⟩,
  ⟨⟨.mv (.slot 7), some 85, none⟩, []⟩,
  ⟨⟨.build [(.int .u8 (.ofNat 0)), (.int .i32 (.ofNat 0)), .nils, .nils] [(0, 1, (.const (.int .u8 (.ofNat 3)))), (1, 1, (.slot 81)), (2, 1, (.slot 84)), (3, 1, (.slot 85))], some 86, none⟩, []⟩,
  ⟨⟨.bslice 4 [(.int .u8 (.ofNat 0)), (.int .i32 (.ofNat 0)), .nils, .nils] [(0, 4, (.slot 86))] 1, some 87, none⟩, []⟩,
  ⟨⟨.append 4 56 (.slot 77) (.slot 87), some 88, none⟩, []⟩,
  ⟨⟨.mv (.slot 88), some 2, none⟩, []⟩]
def r21_11 : List XLine := [⟨⟨.bin .add 3 .num (.slot 23) (.const (.int .i64 (.ofNat 1))), some 89, none⟩, []⟩,
  ⟨⟨.mv (.slot 89), some 23, none⟩, []⟩]
def r21_12 : List XLine := [⟨⟨.bin .add 3 .num (.slot 14) (.const (.int .i64 (.ofNat 1))), some 90, none⟩, []⟩,
  ⟨⟨.mv (.slot 90), some 14, none⟩, []⟩]
def r21_13 : List XLine := [⟨⟨.mv (.slot 2), some 91, none⟩, []⟩,
  ⟨⟨.mv (.slot 91), some 2, none⟩, []⟩]
def xf21 : XFunc := ⟨(.seq (.region false r21_0)
  (.seq (.seq (.region false r21_1)
  (.block 0 (.loop (.seq (.region false r21_2)
  (.seq (.cond (.slot 15)
  .skip
  (.exit 0))
  (.seq (.block 1 (.seq (.region false r21_3)
  (.seq (.region false r21_4)
  (.block 2 (.loop (.seq (.region false r21_5)
  (.seq (.cond (.slot 24)
  .skip
  (.exit 2))
  (.seq (.block 3 (.seq (.region false r21_6)
  (.seq (.seq (.region false r21_7)
  (.cond (.slot 35)
  (.exit 3)
  .skip))
  (.seq (.region true r21_8)
  (.seq (.region false r21_9)
  (.cond (.slot 76)
  (.region false r21_10)
  .skip))))))
  (.region false r21_11)))))))))
  (.region false r21_12)))))))
  (.seq (.region false r21_13)
  .ret))),
  [.tmp 2]⟩
theorem xf21_ok : compFunc Tryz.prog Tryz.f21 = some xf21 := by kernel_rfl
end Go.Proofs.YtpbijmmjcdejoaaGreat

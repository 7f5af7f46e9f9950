/- The functions of the program in X's code, printed by a program of ours; each is what the program's own is turned to. -/
import Derived.Test.YtpbijmmjcdejoaaGreatProg
import Derived.Test.YtpbijmmjcdejoaaGreatW0
import Derived.KernelRfl
namespace Go.Proofs.YtpbijmmjcdejoaaGreat
open Go.Xr
/- (*threshing/gates.finder).ites -/
def r22_0 : List XLine := [⟨⟨.mv (.const .nils), some 2, none⟩, []⟩]
def r22_1 : List XLine := [⟨⟨.mv (.slot 0), some 13, none⟩, []⟩,
  ⟨⟨.nilCheck (.slot 13), some 14, none⟩, []⟩,
  ⟨⟨.faddr 3 (.slot 14), some 15, none⟩, []⟩,
  ⟨⟨.load false 1 (.slot 15), some 16, none⟩, []⟩,
  ⟨⟨.len .slice (.slot 16), some 17, none⟩, []⟩,
  ⟨⟨.mv (.const (.int .i64 (.ofNat 0))), some 18, none⟩, []⟩]
def r22_2 : List XLine := [⟨⟨.bin .lss 3 .num (.slot 18) (.slot 17), some 19, none⟩, []⟩]
def r22_3 : List XLine := [⟨⟨.iaddr 1 (.slot 16) (.slot 18), some 20, none⟩, []⟩,
  ⟨⟨.load false 1 (.slot 20), some 21, none⟩, []⟩,
  ⟨⟨.mv (.slot 21), some 4, none⟩, []⟩]
def r22_4 : List XLine := [⟨⟨.mv (.slot 0), some 22, none⟩, []⟩,
  ⟨⟨.nilCheck (.slot 22), some 23, none⟩, []⟩,
  ⟨⟨.faddr 3 (.slot 23), some 24, none⟩, []⟩,
  ⟨⟨.load false 1 (.slot 24), some 25, none⟩, []⟩,
  ⟨⟨.len .slice (.slot 25), some 26, none⟩, []⟩,
  ⟨⟨.mv (.const (.int .i64 (.ofNat 0))), some 27, none⟩, []⟩]
def r22_5 : List XLine := [⟨⟨.bin .lss 3 .num (.slot 27) (.slot 26), some 28, none⟩, []⟩]
def r22_6 : List XLine := [⟨⟨.iaddr 1 (.slot 25) (.slot 27), some 29, none⟩, []⟩,
  ⟨⟨.load false 1 (.slot 29), some 30, none⟩, []⟩,
  ⟨⟨.mv (.slot 30), some 6, none⟩, []⟩]
def r22_7 : List XLine := [⟨⟨.mv (.slot 0), some 32, none⟩, []⟩,
  ⟨⟨.mv (.slot 0), some 33, none⟩, []⟩,
  ⟨⟨.nilCheck (.slot 33), some 34, none⟩, []⟩,
  ⟨⟨.faddr 1 (.slot 34), some 35, none⟩, []⟩,
  ⟨⟨.load false 1 (.slot 35), some 36, none⟩, []⟩,
  ⟨⟨.un .neg (.slot 36), some 37, none⟩, []⟩,
  ⟨⟨.mv (.slot 4), some 38, none⟩, []⟩,
  ⟨⟨.un .neg (.slot 38), some 39, none⟩, []⟩,
  ⟨⟨.mv (.slot 6), some 40, none⟩, []⟩,
  ⟨⟨.bslice 1 [(.int .i32 (.ofNat 0)), (.int .i32 (.ofNat 0)), (.int .i32 (.ofNat 0))] [(0, 1, (.slot 37)), (1, 1, (.slot 39)), (2, 1, (.slot 40))] 3, some 41, none⟩, []⟩,
  ⟨⟨.bslice 1 [.nils] [(0, 1, (.slot 41))] 1, some 42, none⟩, []⟩,
  ⟨⟨.call (.const (.func 31 [] [])) [(.slot 32), (.slot 42)], some 43, none⟩, []⟩,
  ⟨⟨.mv (.slot 43), some 31, none⟩, []⟩,
  ⟨⟨.extract (.slot 31) 0, some 44, none⟩, []⟩,
  ⟨⟨.extract (.slot 31) 1, some 45, none⟩, []⟩,
  ⟨⟨.mv (.slot 44), some 7, none⟩, []⟩,
  ⟨⟨.mv (.slot 45), some 8, none⟩, []⟩]
def r22_8 : List XLine := [⟨⟨.mv (.slot 4), some 46, none⟩, []⟩,
  ⟨⟨.bin .lss 22 .num (.slot 46) (.const (.int .i32 (.ofNat 0))), some 47, none⟩, []⟩,
  ⟨⟨.mv (.slot 47), some 48, none⟩, []⟩,
  ⟨⟨.mv (.slot 6), some 49, some (48, false)⟩, []⟩,
  ⟨⟨.call (.const (.func 9 [] [])) [(.slot 49)], some 50, some (48, false)⟩, []⟩,
  ⟨⟨.mv (.slot 4), some 51, some (48, false)⟩, []⟩,
  ⟨⟨.conv .i64 (.slot 51), some 52, some (48, false)⟩, []⟩,
  ⟨⟨.bin .eql 3 .num (.slot 50) (.slot 52), some 53, some (48, false)⟩, []⟩,
  ⟨⟨.pick (.slot 48) (.const (.bool true)) (.slot 53), some 54, none⟩, []⟩,
  ⟨⟨.mv (.slot 54), some 55, none⟩, []⟩,
  ⟨⟨.mv (.slot 8), some 56, some (55, false)⟩, []⟩,
  ⟨⟨.un .not (.slot 56), some 57, some (55, false)⟩, []⟩,
  ⟨⟨.pick (.slot 55) (.const (.bool true)) (.slot 57), some 58, none⟩, []⟩]
def r22_9 : List XLine := [⟨⟨.mv (.slot 0), some 59, none⟩, []⟩,
  ⟨⟨.nilCheck (.slot 59), some 60, none⟩, []⟩,
  ⟨⟨.faddr 3 (.slot 60), some 61, none⟩, []⟩,
  ⟨⟨.load false 1 (.slot 61), some 62, none⟩, []⟩,
  ⟨⟨.len .slice (.slot 62), some 63, none⟩, []⟩,
  ⟨⟨.mv (.const (.int .i64 (.ofNat 0))), some 64, none⟩, []⟩]
def r22_10 : List XLine := [⟨⟨.bin .lss 3 .num (.slot 64) (.slot 63), some 65, none⟩, []⟩]
def r22_11 : List XLine := [⟨⟨.iaddr 1 (.slot 62) (.slot 64), some 66, none⟩, []⟩,
  ⟨⟨.load false 1 (.slot 66), some 67, none⟩, []⟩,
  ⟨⟨.mv (.slot 67), some 10, none⟩, []⟩]
def r22_12 : List XLine := [⟨⟨.mv (.slot 10), some 68, none⟩, []⟩,
  ⟨⟨.call (.const (.func 9 [] [])) [(.slot 68)], some 69, none⟩, []⟩,
  ⟨⟨.mv (.slot 4), some 70, none⟩, []⟩,
  ⟨⟨.conv .i64 (.slot 70), some 71, none⟩, []⟩,
  ⟨⟨.bin .eql 3 .num (.slot 69) (.slot 71), some 72, none⟩, []⟩,
  ⟨⟨.mv (.slot 72), some 73, none⟩, []⟩,
  ⟨⟨.mv (.slot 10), some 74, some (73, false)⟩, []⟩,
  ⟨⟨.call (.const (.func 9 [] [])) [(.slot 74)], some 75, some (73, false)⟩, []⟩,
  ⟨⟨.mv (.slot 6), some 76, some (73, false)⟩, []⟩,
  ⟨⟨.call (.const (.func 9 [] [])) [(.slot 76)], some 77, some (73, false)⟩, []⟩,
  ⟨⟨.bin .eql 3 .num (.slot 75) (.slot 77), some 78, some (73, false)⟩, []⟩,
  ⟨⟨.pick (.slot 73) (.const (.bool true)) (.slot 78), some 79, none⟩, []⟩]
def r22_13 : List XLine := [⟨⟨.mv (.slot 0), some 81, none⟩, []⟩,
  ⟨⟨.mv (.slot 0), some 82, none⟩, []⟩,
  ⟨⟨.nilCheck (.slot 82), some 83, none⟩, []⟩,
  ⟨⟨.faddr 1 (.slot 83), some 84, none⟩, []⟩,
  ⟨⟨.load false 1 (.slot 84), some 85, none⟩, []⟩,
  ⟨⟨.un .neg (.slot 85), some 86, none⟩, []⟩,
  ⟨⟨.mv (.slot 4), some 87, none⟩, []⟩,
  ⟨⟨.un .neg (.slot 87), some 88, none⟩, []⟩,
  ⟨⟨.mv (.slot 6), some 89, none⟩, []⟩,
  ⟨⟨.mv (.slot 0), some 91, none⟩, []⟩,
  ⟨⟨.nilCheck (.slot 91), some 92, none⟩, []⟩,
  ⟨⟨.faddr 1 (.slot 92), some 93, none⟩, []⟩,
  ⟨⟨.load false 1 (.slot 93), some 94, none⟩, []⟩,
  ⟨⟨.un .neg (.slot 94), some 95, none⟩, []⟩,
  ⟨⟨.mv (.slot 4), some 96, none⟩, []⟩,
  ⟨⟨.mv (.slot 10), some 97, none⟩, []⟩,
  ⟨⟨.mv (.slot 0), some 99, none⟩, []⟩,
  ⟨⟨.nilCheck (.slot 99), some 100, none⟩, []⟩,
  ⟨⟨.faddr 1 (.slot 100), some 101, none⟩, []⟩,
  ⟨⟨.load false 1 (.slot 101), some 102, none⟩, []⟩,
  ⟨⟨.mv (.slot 4), some 103, none⟩, []⟩,
  ⟨⟨.un .neg (.slot 103), some 104, none⟩, []⟩,
  ⟨⟨.mv (.slot 6), some 105, none⟩, []⟩,
  ⟨⟨.un .neg (.slot 105), some 106, none⟩, []⟩,
  ⟨⟨.mv (.slot 0), some 108, none⟩, []⟩,
  ⟨⟨.nilCheck (.slot 108), some 109, none⟩, []⟩,
  ⟨⟨.faddr 1 (.slot 109), some 110, none⟩, []⟩,
  ⟨⟨.load false 1 (.slot 110), some 111, none⟩, []⟩,
  ⟨⟨.mv (.slot 4), some 112, none⟩, []⟩,
  ⟨⟨.mv (.slot 10), some 113, none⟩, []⟩,
  ⟨⟨.un .neg (.slot 113), some 114, none⟩, []⟩,
  ⟨⟨.bslice 1 [(.int .i32 (.ofNat 0)), (.int .i32 (.ofNat 0)), (.int .i32 (.ofNat 0))] [(0, 1, (.slot 86)), (1, 1, (.slot 88)), (2, 1, (.slot 89))] 3, some 90, none⟩, [⟨.load false 1 (.slot 93), some 94, none⟩, ⟨.load false 1 (.slot 101), some 102, none⟩, ⟨.load false 1 (.slot 110), some 111, none⟩]⟩,
  ⟨⟨.bslice 1 [(.int .i32 (.ofNat 0)), (.int .i32 (.ofNat 0)), (.int .i32 (.ofNat 0))] [(0, 1, (.slot 95)), (1, 1, (.slot 96)), (2, 1, (.slot 97))] 3, some 98, none⟩, [⟨.load false 1 (.slot 84), some 85, none⟩, ⟨.load false 1 (.slot 101), some 102, none⟩, ⟨.load false 1 (.slot 110), some 111, none⟩]⟩,
  ⟨⟨.bslice 1 [(.int .i32 (.ofNat 0)), (.int .i32 (.ofNat 0)), (.int .i32 (.ofNat 0))] [(0, 1, (.slot 102)), (1, 1, (.slot 104)), (2, 1, (.slot 106))] 3, some 107, none⟩, [⟨.load false 1 (.slot 84), some 85, none⟩, ⟨.load false 1 (.slot 93), some 94, none⟩, ⟨.load false 1 (.slot 110), some 111, none⟩]⟩,
  ⟨⟨.bslice 1 [(.int .i32 (.ofNat 0)), (.int .i32 (.ofNat 0)), (.int .i32 (.ofNat 0))] [(0, 1, (.slot 111)), (1, 1, (.slot 112)), (2, 1, (.slot 114))] 3, some 115, none⟩, [⟨.load false 1 (.slot 84), some 85, none⟩, ⟨.load false 1 (.slot 93), some 94, none⟩, ⟨.load false 1 (.slot 101), some 102, none⟩]⟩,
  ⟨⟨.bslice 1 [.nils, .nils, .nils, .nils] [(0, 1, (.slot 90)), (1, 1, (.slot 98)), (2, 1, (.slot 107)), (3, 1, (.slot 115))] 4, some 116, none⟩, []⟩,
  ⟨⟨.call (.const (.func 31 [] [])) [(.slot 81), (.slot 116)], some 117, none⟩, []⟩,
  ⟨⟨.mv (.slot 117), some 80, none⟩, []⟩,
  ⟨⟨.extract (.slot 80) 0, some 118, none⟩, []⟩,
  ⟨⟨.extract (.slot 80) 1, some 119, none⟩, []⟩,
  ⟨⟨.mv (.slot 118), some 11, none⟩, []⟩,
  ⟨⟨.mv (.slot 119), some 12, none⟩, []⟩]
def r22_14 : List XLine := [⟨⟨.mv (.slot 12), some 120, none⟩, []⟩]
def r22_15 : List XLine := [⟨⟨.mv (.slot 2), some 121, none⟩, []⟩,
  ⟨⟨.mv (.slot 0), some 122, none⟩, []⟩,
  ⟨⟨.nilCheck (.slot 122), some 123, none⟩, []⟩,
  ⟨⟨.faddr 1 (.slot 123), some 124, none⟩, []⟩,
  ⟨⟨.load false 1 (.slot 124), some 125, none⟩, []⟩,
  ⟨⟨.mv (.slot 4), some 126, none⟩, []⟩,
  ⟨⟨.mv (.slot 6), some 127, none⟩, []⟩,
  ⟨⟨.mv (.slot 10), some 128, none⟩, []⟩,
  ⟨⟨.bslice 1 [(.int .i32 (.ofNat 0)), (.int .i32 (.ofNat 0)), (.int .i32 (.ofNat 0))] [(0, 1, (.slot 126)), (1, 1, (.slot 127)), (2, 1, (.slot 128))] 3, some 129, none⟩, []⟩,
  ⟨⟨.mv (.slot 11), some 130, none⟩, []⟩,
  ⟨⟨.build [(.int .u8 (.ofNat 0)), (.int .i32 (.ofNat 0)), .nils, .nils] [(0, 1, (.const (.int .u8 (.ofNat 4)))), (1, 1, (.slot 125)), (2, 1, (.slot 129)), (3, 1, (.slot 130))], some 131, none⟩, []⟩,
  ⟨⟨.bslice 4 [(.int .u8 (.ofNat 0)), (.int .i32 (.ofNat 0)), .nils, .nils] [(0, 4, (.slot 131))] 1, some 132, none⟩, []⟩,
  ⟨⟨.append 4 56 (.slot 121) (.slot 132), some 133, none⟩, []⟩,
  ⟨⟨.mv (.slot 133), some 2, none⟩, []⟩]
def r22_16 : List XLine := [⟨⟨.bin .add 3 .num (.slot 64) (.const (.int .i64 (.ofNat 1))), some 134, none⟩, []⟩,
  ⟨⟨.mv (.slot 134), some 64, none⟩, []⟩]
def r22_17 : List XLine := [⟨⟨.bin .add 3 .num (.slot 27) (.const (.int .i64 (.ofNat 1))), some 135, none⟩, []⟩,
  ⟨⟨.mv (.slot 135), some 27, none⟩, []⟩]
def r22_18 : List XLine := [⟨⟨.bin .add 3 .num (.slot 18) (.const (.int .i64 (.ofNat 1))), some 136, none⟩, []⟩,
  ⟨⟨.mv (.slot 136), some 18, none⟩, []⟩]
def r22_19 : List XLine := [⟨⟨.mv (.slot 2), some 137, none⟩, []⟩,
  ⟨⟨.mv (.slot 137), some 2, none⟩, []⟩]
def xf22 : XFunc := ⟨(.seq (.region false r22_0)
  (.seq (.seq (.region false r22_1)
  (.block 0 (.loop (.seq (.region false r22_2)
  (.seq (.cond (.slot 19)
  .skip
  (.exit 0))
  (.seq (.block 1 (.seq (.region false r22_3)
  (.seq (.region false r22_4)
  (.block 2 (.loop (.seq (.region false r22_5)
  (.seq (.cond (.slot 28)
  .skip
  (.exit 2))
  (.seq (.block 3 (.seq (.region false r22_6)
  (.seq (.seq (.region false r22_7)
  (.seq (.region false r22_8)
  (.cond (.slot 58)
  (.exit 3)
  .skip)))
  (.seq (.region false r22_9)
  (.block 4 (.loop (.seq (.region false r22_10)
  (.seq (.cond (.slot 65)
  .skip
  (.exit 4))
  (.seq (.block 5 (.seq (.region false r22_11)
  (.seq (.seq (.region false r22_12)
  (.cond (.slot 79)
  (.exit 5)
  .skip))
  (.seq (.region true r22_13)
  (.seq (.region false r22_14)
  (.cond (.slot 120)
  (.region false r22_15)
  .skip))))))
  (.region false r22_16))))))))))
  (.region false r22_17)))))))))
  (.region false r22_18)))))))
  (.seq (.region false r22_19)
  .ret))),
  [.tmp 2]⟩
theorem xf22_ok : compFunc Tryz.prog Tryz.f22 = some xf22 := by kernel_rfl
/- threshing/base.New -/
def r23_0 : List XLine := [⟨⟨.box (.slot 0), some 1, none⟩, []⟩,
  ⟨⟨.mv (.const .nilp), some 2, none⟩, []⟩,
  ⟨⟨.mv (.const (.int .i64 (.ofNat 0))), some 3, none⟩, []⟩]
def r23_1 : List XLine := [⟨⟨.load true 2 (.slot 1), some 8, none⟩, []⟩,
  ⟨⟨.call (.const (.func 34 [] [])) [(.slot 8)], some 9, none⟩, []⟩,
  ⟨⟨.mv (.slot 9), some 4, none⟩, []⟩]
def r23_2 : List XLine := [⟨⟨.mv (.slot 4), some 10, none⟩, []⟩,
  ⟨⟨.bin .neq 53 .num (.slot 10) (.const (.int .i64 (.ofNat 0))), some 11, none⟩, []⟩]
def r23_3 : List XLine := [⟨⟨.mv (.slot 4), some 12, none⟩, []⟩,
  ⟨⟨.mv (.const .nilp), some 2, none⟩, []⟩,
  ⟨⟨.mv (.slot 12), some 3, none⟩, []⟩]
def r23_4 : List XLine := [⟨⟨.faddr 0 (.slot 1), some 13, none⟩, []⟩,
  ⟨⟨.load false 1 (.slot 13), some 14, none⟩, []⟩,
  ⟨⟨.mkmap .i64, some 15, none⟩, []⟩,
  ⟨⟨.mkmap .i32, some 16, none⟩, []⟩,
  ⟨⟨.mkmap .i64, some 17, none⟩, []⟩,
  ⟨⟨.build [(.int .i64 (.ofNat 0)), .nilm, .nilm, .nilm, (.int .i64 (.ofNat 0)), .nils, .nils, .nils] [(0, 1, (.slot 14)), (1, 1, (.slot 15)), (2, 1, (.slot 16)), (3, 1, (.slot 17))], some 18, none⟩, []⟩,
  ⟨⟨.box (.slot 18), some 19, none⟩, []⟩,
  ⟨⟨.mv (.slot 19), some 5, none⟩, []⟩]
def r23_5 : List XLine := [⟨⟨.faddr 1 (.slot 1), some 20, none⟩, []⟩,
  ⟨⟨.load false 1 (.slot 20), some 21, none⟩, []⟩,
  ⟨⟨.len .slice (.slot 21), some 22, none⟩, []⟩,
  ⟨⟨.mv (.const (.int .i64 (.ofNat 0))), some 23, none⟩, []⟩]
def r23_6 : List XLine := [⟨⟨.bin .lss 3 .num (.slot 23) (.slot 22), some 24, none⟩, []⟩]
def r23_7 : List XLine := [⟨⟨.iaddr 1 (.slot 21) (.slot 23), some 25, none⟩, []⟩,
  ⟨⟨.load false 1 (.slot 25), some 26, none⟩, []⟩,
  ⟨⟨.mv (.slot 26), some 7, none⟩, []⟩]
def r23_8 : List XLine := [⟨⟨.mv (.slot 5), some 27, none⟩, []⟩,
  ⟨⟨.mv (.slot 7), some 28, none⟩, []⟩,
  ⟨⟨.call (.const (.func 35 [] [])) [(.slot 27), (.slot 28), (.const (.bool false))], some 29, none⟩, []⟩]
def r23_9 : List XLine := [⟨⟨.bin .add 3 .num (.slot 23) (.const (.int .i64 (.ofNat 1))), some 30, none⟩, []⟩,
  ⟨⟨.mv (.slot 30), some 23, none⟩, []⟩]
def r23_10 : List XLine := [⟨⟨.mv (.slot 5), some 31, none⟩, []⟩,
  ⟨⟨.mv (.slot 31), some 2, none⟩, []⟩,
  ⟨⟨.mv (.const (.int .i64 (.ofNat 0))), some 3, none⟩, []⟩]
def xf23 : XFunc := ⟨(.seq (.region false r23_0)
  (.seq (.seq (.region false r23_1)
  (.seq (.region false r23_2)
  (.cond (.slot 11)
  (.seq (.region false r23_3)
  .ret)
  .skip)))
  (.seq (.region false r23_4)
  (.seq (.seq (.region false r23_5)
  (.block 0 (.loop (.seq (.region false r23_6)
  (.seq (.cond (.slot 24)
  .skip
  (.exit 0))
  (.seq (.block 1 (.seq (.region false r23_7)
  (.region false r23_8)))
  (.region false r23_9)))))))
  (.seq (.region false r23_10)
  .ret))))),
  [.tmp 2, .tmp 3]⟩
theorem xf23_ok : compFunc Tryz.prog Tryz.f23 = some xf23 := by kernel_rfl
/- slices.Concat[[]int64,int64] -/
def r24_0 : List XLine := [⟨⟨.mv (.const .nils), some 2, none⟩, []⟩]
def r24_1 : List XLine := [⟨⟨.mv (.const (.int .i64 (.ofNat 0))), some 3, none⟩, []⟩]
def r24_2 : List XLine := [⟨⟨.mv (.slot 0), some 9, none⟩, []⟩,
  ⟨⟨.len .slice (.slot 9), some 10, none⟩, []⟩,
  ⟨⟨.mv (.const (.int .i64 (.ofNat 0))), some 11, none⟩, []⟩]
def r24_3 : List XLine := [⟨⟨.bin .lss 3 .num (.slot 11) (.slot 10), some 12, none⟩, []⟩]
def r24_4 : List XLine := [⟨⟨.iaddr 1 (.slot 9) (.slot 11), some 13, none⟩, []⟩,
  ⟨⟨.load false 1 (.slot 13), some 14, none⟩, []⟩,
  ⟨⟨.mv (.slot 14), some 5, none⟩, []⟩]
def r24_5 : List XLine := [⟨⟨.mv (.slot 3), some 15, none⟩, []⟩,
  ⟨⟨.mv (.slot 5), some 16, none⟩, []⟩,
  ⟨⟨.len .slice (.slot 16), some 17, none⟩, []⟩,
  ⟨⟨.bin .add 3 .num (.slot 15) (.slot 17), some 18, none⟩, []⟩,
  ⟨⟨.mv (.slot 18), some 3, none⟩, []⟩]
def r24_6 : List XLine := [⟨⟨.mv (.slot 3), some 19, none⟩, []⟩,
  ⟨⟨.bin .lss 3 .num (.slot 19) (.const (.int .i64 (.ofNat 0))), some 20, none⟩, []⟩]
def r24_7 : List XLine := [⟨⟨.mkif 9 (.const (.str ⟨⟨[108, 101, 110, 32, 111, 117, 116, 32, 111, 102, 32, 114, 97, 110, 103, 101]⟩⟩)), some 21, none⟩, []⟩,
  ⟨⟨.bad, none, none⟩, []⟩]
def r24_8 : List XLine := [⟨⟨.bin .add 3 .num (.slot 11) (.const (.int .i64 (.ofNat 1))), some 22, none⟩, []⟩,
  ⟨⟨.mv (.slot 22), some 11, none⟩, []⟩]
def r24_9 : List XLine := [⟨⟨.mv (.slot 3), some 23, none⟩, []⟩,
  ⟨⟨.call (.const (.func 36 [] [])) [(.const .nils), (.slot 23)], some 24, none⟩, []⟩,
  ⟨⟨.mv (.slot 24), some 6, none⟩, []⟩]
def r24_10 : List XLine := [⟨⟨.mv (.slot 0), some 25, none⟩, []⟩,
  ⟨⟨.len .slice (.slot 25), some 26, none⟩, []⟩,
  ⟨⟨.mv (.const (.int .i64 (.ofNat 0))), some 27, none⟩, []⟩]
def r24_11 : List XLine := [⟨⟨.bin .lss 3 .num (.slot 27) (.slot 26), some 28, none⟩, []⟩]
def r24_12 : List XLine := [⟨⟨.iaddr 1 (.slot 25) (.slot 27), some 29, none⟩, []⟩,
  ⟨⟨.load false 1 (.slot 29), some 30, none⟩, []⟩,
  ⟨⟨.mv (.slot 30), some 8, none⟩, []⟩]
def r24_13 : List XLine := [⟨⟨.mv (.slot 6), some 31, none⟩, []⟩,
  ⟨⟨.mv (.slot 8), some 32, none⟩, []⟩,
  ⟨⟨.append 1 8 (.slot 31) (.slot 32), some 33, none⟩, []⟩,
  ⟨⟨.mv (.slot 33), some 6, none⟩, []⟩]
def r24_14 : List XLine := [⟨⟨.bin .add 3 .num (.slot 27) (.const (.int .i64 (.ofNat 1))), some 34, none⟩, []⟩,
  ⟨⟨.mv (.slot 34), some 27, none⟩, []⟩]
def r24_15 : List XLine := [⟨⟨.mv (.slot 6), some 35, none⟩, []⟩,
  ⟨⟨.mv (.slot 35), some 2, none⟩, []⟩]
def xf24 : XFunc := ⟨(.seq (.region false r24_0)
  (.seq (.region false r24_1)
  (.seq (.seq (.region false r24_2)
  (.block 0 (.loop (.seq (.region false r24_3)
  (.seq (.cond (.slot 12)
  .skip
  (.exit 0))
  (.seq (.block 1 (.seq (.region false r24_4)
  (.seq (.region false r24_5)
  (.seq (.region false r24_6)
  (.cond (.slot 20)
  (.region false r24_7)
  .skip)))))
  (.region false r24_8)))))))
  (.seq (.region false r24_9)
  (.seq (.seq (.region false r24_10)
  (.block 2 (.loop (.seq (.region false r24_11)
  (.seq (.cond (.slot 28)
  .skip
  (.exit 2))
  (.seq (.block 3 (.seq (.region false r24_12)
  (.region false r24_13)))
  (.region false r24_14)))))))
  (.seq (.region false r24_15)
  .ret)))))),
  [.tmp 2]⟩
theorem xf24_ok : compFunc Tryz.prog Tryz.f24 = some xf24 := by kernel_rfl
/- (*threshing/base.Base).Occurs -/
def r25_0 : List XLine := [⟨⟨.mv (.const .nils), some 4, none⟩, []⟩]
def r25_1 : List XLine := [⟨⟨.mv (.slot 0), some 5, none⟩, []⟩,
  ⟨⟨.bin .eql 42 .ptr (.slot 5) (.const .nilp), some 6, none⟩, []⟩]
def r25_2 : List XLine := [⟨⟨.mv (.const .nils), some 4, none⟩, []⟩]
def r25_3 : List XLine := [⟨⟨.mv (.slot 0), some 7, none⟩, []⟩,
  ⟨⟨.nilCheck (.slot 7), some 8, none⟩, []⟩,
  ⟨⟨.faddr 2 (.slot 8), some 9, none⟩, []⟩,
  ⟨⟨.load false 1 (.slot 9), some 10, none⟩, []⟩,
  ⟨⟨.mv (.slot 1), some 11, none⟩, []⟩,
  ⟨⟨.lookup .i32 .nilm (.slot 10) (.slot 11) false, some 12, none⟩, []⟩,
  ⟨⟨.call (.const (.func 38 [] [])) [(.slot 12)], some 13, none⟩, []⟩,
  ⟨⟨.call (.const (.func 37 [] [])) [(.slot 13)], some 14, none⟩, []⟩,
  ⟨⟨.mv (.slot 14), some 4, none⟩, []⟩]
def xf25 : XFunc := ⟨(.seq (.region false r25_0)
  (.seq (.seq (.region false r25_1)
  (.cond (.slot 6)
  (.seq (.region false r25_2)
  .ret)
  .skip))
  (.seq (.region false r25_3)
  .ret))),
  [.tmp 4]⟩
theorem xf25_ok : compFunc Tryz.prog Tryz.f25 = some xf25 := by kernel_rfl
/- slices.Sort[[]int64,int64] -/
def r26_0 : List XLine := [⟨⟨.mv (.slot 0), some 3, none⟩, []⟩,
  ⟨⟨.len .slice (.slot 3), some 4, none⟩, []⟩,
  ⟨⟨.mv (.slot 4), some 2, none⟩, []⟩]
def r26_1 : List XLine := [⟨⟨.mv (.slot 0), some 5, none⟩, []⟩,
  ⟨⟨.mv (.slot 2), some 6, none⟩, []⟩,
  ⟨⟨.mv (.slot 2), some 7, none⟩, []⟩,
  ⟨⟨.conv .u64 (.slot 7), some 8, none⟩, []⟩,
  ⟨⟨.call (.const (.func 40 [] [])) [(.slot 8)], some 9, none⟩, []⟩,
  ⟨⟨.call (.const (.func 39 [] [])) [(.slot 5), (.const (.int .i64 (.ofNat 0))), (.slot 6), (.slot 9)], some 10, none⟩, []⟩]
def xf26 : XFunc := ⟨(.seq (.region false r26_0)
  (.region false r26_1)),
  []⟩
theorem xf26_ok : compFunc Tryz.prog Tryz.f26 = some xf26 := by kernel_rfl
/- slices.Compact[[]int64,int64] -/
def r27_0 : List XLine := [⟨⟨.mv (.const .nils), some 2, none⟩, []⟩]
def r27_1 : List XLine := [⟨⟨.mv (.slot 0), some 6, none⟩, []⟩,
  ⟨⟨.len .slice (.slot 6), some 7, none⟩, []⟩,
  ⟨⟨.bin .lss 3 .num (.slot 7) (.const (.int .i64 (.ofNat 2))), some 8, none⟩, []⟩]
def r27_2 : List XLine := [⟨⟨.mv (.slot 0), some 9, none⟩, []⟩,
  ⟨⟨.mv (.slot 9), some 2, none⟩, []⟩]
def r27_3 : List XLine := [⟨⟨.mv (.const (.int .i64 (.ofNat 1))), some 3, none⟩, []⟩]
def r27_4 : List XLine := [⟨⟨.mv (.slot 3), some 10, none⟩, []⟩,
  ⟨⟨.mv (.slot 0), some 11, none⟩, []⟩,
  ⟨⟨.len .slice (.slot 11), some 12, none⟩, []⟩,
  ⟨⟨.bin .lss 3 .num (.slot 10) (.slot 12), some 13, none⟩, []⟩]
def r27_5 : List XLine := [⟨⟨.mv (.slot 0), some 16, none⟩, []⟩,
  ⟨⟨.mv (.slot 3), some 17, none⟩, []⟩,
  ⟨⟨.iaddr 1 (.slot 16) (.slot 17), some 18, none⟩, []⟩,
  ⟨⟨.load false 1 (.slot 18), some 19, none⟩, []⟩,
  ⟨⟨.mv (.slot 0), some 20, none⟩, []⟩,
  ⟨⟨.mv (.slot 3), some 21, none⟩, []⟩,
  ⟨⟨.bin .sub 3 .num (.slot 21) (.const (.int .i64 (.ofNat 1))), some 22, none⟩, []⟩,
  ⟨⟨.iaddr 1 (.slot 20) (.slot 22), some 23, none⟩, []⟩,
  ⟨⟨.load false 1 (.slot 23), some 24, none⟩, []⟩,
  ⟨⟨.bin .eql 2 .num (.slot 19) (.slot 24), some 25, none⟩, []⟩]
def r27_6 : List XLine := [⟨⟨.mv (.slot 0), some 26, none⟩, []⟩,
  ⟨⟨.mv (.slot 3), some 27, none⟩, []⟩,
  ⟨⟨.slc 1 (.slot 26) (some (.slot 27)) none none, some 28, none⟩, []⟩,
  ⟨⟨.mv (.slot 28), some 4, none⟩, []⟩]
def r27_7 : List XLine := [⟨⟨.mv (.const (.int .i64 (.ofNat 1))), some 5, none⟩, []⟩]
def r27_8 : List XLine := [⟨⟨.mv (.slot 5), some 29, none⟩, []⟩,
  ⟨⟨.mv (.slot 4), some 30, none⟩, []⟩,
  ⟨⟨.len .slice (.slot 30), some 31, none⟩, []⟩,
  ⟨⟨.bin .lss 3 .num (.slot 29) (.slot 31), some 32, none⟩, []⟩]
def r27_9 : List XLine := [⟨⟨.mv (.slot 4), some 35, none⟩, []⟩,
  ⟨⟨.mv (.slot 5), some 36, none⟩, []⟩,
  ⟨⟨.iaddr 1 (.slot 35) (.slot 36), some 37, none⟩, []⟩,
  ⟨⟨.load false 1 (.slot 37), some 38, none⟩, []⟩,
  ⟨⟨.mv (.slot 4), some 39, none⟩, []⟩,
  ⟨⟨.mv (.slot 5), some 40, none⟩, []⟩,
  ⟨⟨.bin .sub 3 .num (.slot 40) (.const (.int .i64 (.ofNat 1))), some 41, none⟩, []⟩,
  ⟨⟨.iaddr 1 (.slot 39) (.slot 41), some 42, none⟩, []⟩,
  ⟨⟨.load false 1 (.slot 42), some 43, none⟩, []⟩,
  ⟨⟨.bin .neq 2 .num (.slot 38) (.slot 43), some 44, none⟩, []⟩]
def r27_10 : List XLine := [⟨⟨.mv (.slot 0), some 45, none⟩, []⟩,
  ⟨⟨.mv (.slot 3), some 46, none⟩, []⟩,
  ⟨⟨.mv (.slot 4), some 47, none⟩, []⟩,
  ⟨⟨.mv (.slot 5), some 48, none⟩, []⟩,
  ⟨⟨.iaddr 1 (.slot 47) (.slot 48), some 49, none⟩, []⟩,
  ⟨⟨.load false 1 (.slot 49), some 50, none⟩, []⟩,
  ⟨⟨.iaddr 1 (.slot 45) (.slot 46), some 51, none⟩, []⟩,
  ⟨⟨.store 1 (.slot 51) (.slot 50), none, none⟩, []⟩]
def r27_11 : List XLine := [⟨⟨.mv (.slot 3), some 52, none⟩, []⟩,
  ⟨⟨.bin .add 3 .num (.slot 52) (.const (.int .i64 (.ofNat 1))), some 53, none⟩, []⟩,
  ⟨⟨.mv (.slot 53), some 3, none⟩, []⟩]
def r27_12 : List XLine := [⟨⟨.mv (.slot 5), some 33, none⟩, []⟩,
  ⟨⟨.bin .add 3 .num (.slot 33) (.const (.int .i64 (.ofNat 1))), some 34, none⟩, []⟩,
  ⟨⟨.mv (.slot 34), some 5, none⟩, []⟩]
def r27_13 : List XLine := [⟨⟨.mv (.slot 0), some 54, none⟩, []⟩,
  ⟨⟨.mv (.slot 3), some 55, none⟩, []⟩,
  ⟨⟨.slc 1 (.slot 54) (some (.slot 55)) none none, some 56, none⟩, []⟩,
  ⟨⟨.clear [(.int .i64 (.ofNat 0))] (.slot 56), none, none⟩, []⟩]
def r27_14 : List XLine := [⟨⟨.mv (.slot 0), some 57, none⟩, []⟩,
  ⟨⟨.mv (.slot 3), some 58, none⟩, []⟩,
  ⟨⟨.slc 1 (.slot 57) none (some (.slot 58)) none, some 59, none⟩, []⟩,
  ⟨⟨.mv (.slot 59), some 2, none⟩, []⟩]
def r27_15 : List XLine := [⟨⟨.mv (.slot 3), some 14, none⟩, []⟩,
  ⟨⟨.bin .add 3 .num (.slot 14) (.const (.int .i64 (.ofNat 1))), some 15, none⟩, []⟩,
  ⟨⟨.mv (.slot 15), some 3, none⟩, []⟩]
def r27_16 : List XLine := [⟨⟨.mv (.slot 0), some 60, none⟩, []⟩,
  ⟨⟨.mv (.slot 60), some 2, none⟩, []⟩]
def xf27 : XFunc := ⟨(.seq (.region false r27_0)
  (.seq (.seq (.region false r27_1)
  (.cond (.slot 8)
  (.seq (.region false r27_2)
  .ret)
  .skip))
  (.seq (.seq (.region false r27_3)
  (.block 0 (.loop (.seq (.seq (.region false r27_4)
  (.cond (.slot 13)
  .skip
  (.exit 0)))
  (.seq (.block 1 (.seq (.region true r27_5)
  (.cond (.slot 25)
  (.seq (.region false r27_6)
  (.seq (.seq (.region false r27_7)
  (.block 2 (.loop (.seq (.seq (.region false r27_8)
  (.cond (.slot 32)
  .skip
  (.exit 2)))
  (.seq (.block 3 (.seq (.region true r27_9)
  (.cond (.slot 44)
  (.seq (.region false r27_10)
  (.region false r27_11))
  .skip)))
  (.region false r27_12))))))
  (.seq (.region false r27_13)
  (.seq (.region false r27_14)
  .ret))))
  .skip)))
  (.region false r27_15))))))
  (.seq (.region false r27_16)
  .ret)))),
  [.tmp 2]⟩
theorem xf27_ok : compFunc Tryz.prog Tryz.f27 = some xf27 := by kernel_rfl
/- (*threshing/base.Base).Get -/
def r28_0 : List XLine := [⟨⟨.alloc [(.int .i64 (.ofNat 0)), .nils, (.bool false)], some 4, none⟩, []⟩,
  ⟨⟨.mv (.const (.bool false)), some 5, none⟩, []⟩]
def r28_1 : List XLine := [⟨⟨.mv (.slot 0), some 8, none⟩, []⟩,
  ⟨⟨.bin .eql 42 .ptr (.slot 8) (.const .nilp), some 9, none⟩, []⟩]
def r28_2 : List XLine := [⟨⟨.build [(.int .i64 (.ofNat 0)), .nils, (.bool false)] [], some 10, none⟩, []⟩,
  ⟨⟨.store 3 (.slot 4) (.slot 10), none, none⟩, []⟩,
  ⟨⟨.mv (.const (.bool false)), some 5, none⟩, []⟩]
def r28_3 : List XLine := [⟨⟨.mv (.slot 0), some 12, none⟩, []⟩,
  ⟨⟨.nilCheck (.slot 12), some 13, none⟩, []⟩,
  ⟨⟨.faddr 1 (.slot 13), some 14, none⟩, []⟩,
  ⟨⟨.load false 1 (.slot 14), some 15, none⟩, []⟩,
  ⟨⟨.mv (.slot 1), some 16, none⟩, []⟩,
  ⟨⟨.lookup .i64 (.agg [(.int .i64 (.ofNat 0)), .nils, (.bool false)]) (.slot 15) (.slot 16) true, some 17, none⟩, []⟩,
  ⟨⟨.mv (.slot 17), some 11, none⟩, []⟩,
  ⟨⟨.extract (.slot 11) 0, some 18, none⟩, []⟩,
  ⟨⟨.extract (.slot 11) 1, some 19, none⟩, []⟩,
  ⟨⟨.alloc [(.int .i64 (.ofNat 0)), .nils, (.bool false)], some 6, none⟩, []⟩,
  ⟨⟨.store 3 (.slot 6) (.slot 18), none, none⟩, []⟩,
  ⟨⟨.mv (.slot 19), some 7, none⟩, []⟩]
def r28_4 : List XLine := [⟨⟨.load true 3 (.slot 6), some 20, none⟩, []⟩,
  ⟨⟨.call (.const (.func 41 [] [])) [(.slot 20)], some 21, none⟩, []⟩,
  ⟨⟨.mv (.slot 7), some 22, none⟩, []⟩,
  ⟨⟨.store 3 (.slot 4) (.slot 21), none, none⟩, []⟩,
  ⟨⟨.mv (.slot 22), some 5, none⟩, []⟩]
def xf28 : XFunc := ⟨(.seq (.region false r28_0)
  (.seq (.seq (.region false r28_1)
  (.cond (.slot 9)
  (.seq (.region false r28_2)
  .ret)
  .skip))
  (.seq (.region false r28_3)
  (.seq (.region false r28_4)
  .ret)))),
  [.cell 4 true 3, .tmp 5]⟩
theorem xf28_ok : compFunc Tryz.prog Tryz.f28 = some xf28 := by kernel_rfl
/- slices.Sort[[]int,int] -/
def r29_0 : List XLine := [⟨⟨.mv (.slot 0), some 3, none⟩, []⟩,
  ⟨⟨.len .slice (.slot 3), some 4, none⟩, []⟩,
  ⟨⟨.mv (.slot 4), some 2, none⟩, []⟩]
def r29_1 : List XLine := [⟨⟨.mv (.slot 0), some 5, none⟩, []⟩,
  ⟨⟨.mv (.slot 2), some 6, none⟩, []⟩,
  ⟨⟨.mv (.slot 2), some 7, none⟩, []⟩,
  ⟨⟨.conv .u64 (.slot 7), some 8, none⟩, []⟩,
  ⟨⟨.call (.const (.func 40 [] [])) [(.slot 8)], some 9, none⟩, []⟩,
  ⟨⟨.call (.const (.func 42 [] [])) [(.slot 5), (.const (.int .i64 (.ofNat 0))), (.slot 6), (.slot 9)], some 10, none⟩, []⟩]
def xf29 : XFunc := ⟨(.seq (.region false r29_0)
  (.region false r29_1)),
  []⟩
theorem xf29_ok : compFunc Tryz.prog Tryz.f29 = some xf29 := by kernel_rfl
/- slices.Compact[[]int,int] -/
def r30_0 : List XLine := [⟨⟨.mv (.const .nils), some 2, none⟩, []⟩]
def r30_1 : List XLine := [⟨⟨.mv (.slot 0), some 6, none⟩, []⟩,
  ⟨⟨.len .slice (.slot 6), some 7, none⟩, []⟩,
  ⟨⟨.bin .lss 3 .num (.slot 7) (.const (.int .i64 (.ofNat 2))), some 8, none⟩, []⟩]
def r30_2 : List XLine := [⟨⟨.mv (.slot 0), some 9, none⟩, []⟩,
  ⟨⟨.mv (.slot 9), some 2, none⟩, []⟩]
def r30_3 : List XLine := [⟨⟨.mv (.const (.int .i64 (.ofNat 1))), some 3, none⟩, []⟩]
def r30_4 : List XLine := [⟨⟨.mv (.slot 3), some 10, none⟩, []⟩,
  ⟨⟨.mv (.slot 0), some 11, none⟩, []⟩,
  ⟨⟨.len .slice (.slot 11), some 12, none⟩, []⟩,
  ⟨⟨.bin .lss 3 .num (.slot 10) (.slot 12), some 13, none⟩, []⟩]
def r30_5 : List XLine := [⟨⟨.mv (.slot 0), some 16, none⟩, []⟩,
  ⟨⟨.mv (.slot 3), some 17, none⟩, []⟩,
  ⟨⟨.iaddr 1 (.slot 16) (.slot 17), some 18, none⟩, []⟩,
  ⟨⟨.load false 1 (.slot 18), some 19, none⟩, []⟩,
  ⟨⟨.mv (.slot 0), some 20, none⟩, []⟩,
  ⟨⟨.mv (.slot 3), some 21, none⟩, []⟩,
  ⟨⟨.bin .sub 3 .num (.slot 21) (.const (.int .i64 (.ofNat 1))), some 22, none⟩, []⟩,
  ⟨⟨.iaddr 1 (.slot 20) (.slot 22), some 23, none⟩, []⟩,
  ⟨⟨.load false 1 (.slot 23), some 24, none⟩, []⟩,
  ⟨⟨.bin .eql 3 .num (.slot 19) (.slot 24), some 25, none⟩, []⟩]
def r30_6 : List XLine := [⟨⟨.mv (.slot 0), some 26, none⟩, []⟩,
  ⟨⟨.mv (.slot 3), some 27, none⟩, []⟩,
  ⟨⟨.slc 1 (.slot 26) (some (.slot 27)) none none, some 28, none⟩, []⟩,
  ⟨⟨.mv (.slot 28), some 4, none⟩, []⟩]
def r30_7 : List XLine := [⟨⟨.mv (.const (.int .i64 (.ofNat 1))), some 5, none⟩, []⟩]
def r30_8 : List XLine := [⟨⟨.mv (.slot 5), some 29, none⟩, []⟩,
  ⟨⟨.mv (.slot 4), some 30, none⟩, []⟩,
  ⟨⟨.len .slice (.slot 30), some 31, none⟩, []⟩,
  ⟨⟨.bin .lss 3 .num (.slot 29) (.slot 31), some 32, none⟩, []⟩]
def r30_9 : List XLine := [⟨⟨.mv (.slot 4), some 35, none⟩, []⟩,
  ⟨⟨.mv (.slot 5), some 36, none⟩, []⟩,
  ⟨⟨.iaddr 1 (.slot 35) (.slot 36), some 37, none⟩, []⟩,
  ⟨⟨.load false 1 (.slot 37), some 38, none⟩, []⟩,
  ⟨⟨.mv (.slot 4), some 39, none⟩, []⟩,
  ⟨⟨.mv (.slot 5), some 40, none⟩, []⟩,
  ⟨⟨.bin .sub 3 .num (.slot 40) (.const (.int .i64 (.ofNat 1))), some 41, none⟩, []⟩,
  ⟨⟨.iaddr 1 (.slot 39) (.slot 41), some 42, none⟩, []⟩,
  ⟨⟨.load false 1 (.slot 42), some 43, none⟩, []⟩,
  ⟨⟨.bin .neq 3 .num (.slot 38) (.slot 43), some 44, none⟩, []⟩]
def r30_10 : List XLine := [⟨⟨.mv (.slot 0), some 45, none⟩, []⟩,
  ⟨⟨.mv (.slot 3), some 46, none⟩, []⟩,
  ⟨⟨.mv (.slot 4), some 47, none⟩, []⟩,
  ⟨⟨.mv (.slot 5), some 48, none⟩, []⟩,
  ⟨⟨.iaddr 1 (.slot 47) (.slot 48), some 49, none⟩, []⟩,
  ⟨⟨.load false 1 (.slot 49), some 50, none⟩, []⟩,
  ⟨⟨.iaddr 1 (.slot 45) (.slot 46), some 51, none⟩, []⟩,
  ⟨⟨.store 1 (.slot 51) (.slot 50), none, none⟩, []⟩]
def r30_11 : List XLine := [⟨⟨.mv (.slot 3), some 52, none⟩, []⟩,
  ⟨⟨.bin .add 3 .num (.slot 52) (.const (.int .i64 (.ofNat 1))), some 53, none⟩, []⟩,
  ⟨⟨.mv (.slot 53), some 3, none⟩, []⟩]
def r30_12 : List XLine := [⟨⟨.mv (.slot 5), some 33, none⟩, []⟩,
  ⟨⟨.bin .add 3 .num (.slot 33) (.const (.int .i64 (.ofNat 1))), some 34, none⟩, []⟩,
  ⟨⟨.mv (.slot 34), some 5, none⟩, []⟩]
def r30_13 : List XLine := [⟨⟨.mv (.slot 0), some 54, none⟩, []⟩,
  ⟨⟨.mv (.slot 3), some 55, none⟩, []⟩,
  ⟨⟨.slc 1 (.slot 54) (some (.slot 55)) none none, some 56, none⟩, []⟩,
  ⟨⟨.clear [(.int .i64 (.ofNat 0))] (.slot 56), none, none⟩, []⟩]
def r30_14 : List XLine := [⟨⟨.mv (.slot 0), some 57, none⟩, []⟩,
  ⟨⟨.mv (.slot 3), some 58, none⟩, []⟩,
  ⟨⟨.slc 1 (.slot 57) none (some (.slot 58)) none, some 59, none⟩, []⟩,
  ⟨⟨.mv (.slot 59), some 2, none⟩, []⟩]
def r30_15 : List XLine := [⟨⟨.mv (.slot 3), some 14, none⟩, []⟩,
  ⟨⟨.bin .add 3 .num (.slot 14) (.const (.int .i64 (.ofNat 1))), some 15, none⟩, []⟩,
  ⟨⟨.mv (.slot 15), some 3, none⟩, []⟩]
def r30_16 : List XLine := [⟨⟨.mv (.slot 0), some 60, none⟩, []⟩,
  ⟨⟨.mv (.slot 60), some 2, none⟩, []⟩]
def xf30 : XFunc := ⟨(.seq (.region false r30_0)
  (.seq (.seq (.region false r30_1)
  (.cond (.slot 8)
  (.seq (.region false r30_2)
  .ret)
  .skip))
  (.seq (.seq (.region false r30_3)
  (.block 0 (.loop (.seq (.seq (.region false r30_4)
  (.cond (.slot 13)
  .skip
  (.exit 0)))
  (.seq (.block 1 (.seq (.region true r30_5)
  (.cond (.slot 25)
  (.seq (.region false r30_6)
  (.seq (.seq (.region false r30_7)
  (.block 2 (.loop (.seq (.seq (.region false r30_8)
  (.cond (.slot 32)
  .skip
  (.exit 2)))
  (.seq (.block 3 (.seq (.region true r30_9)
  (.cond (.slot 44)
  (.seq (.region false r30_10)
  (.region false r30_11))
  .skip)))
  (.region false r30_12))))))
  (.seq (.region false r30_13)
  (.seq (.region false r30_14)
  .ret))))
  .skip)))
  (.region false r30_15))))))
  (.seq (.region false r30_16)
  .ret)))),
  [.tmp 2]⟩
theorem xf30_ok : compFunc Tryz.prog Tryz.f30 = some xf30 := by kernel_rfl
/- (*threshing/gates.finder).all -/
def r31_0 : List XLine := [⟨⟨.mv (.const .nils), some 4, none⟩, []⟩,
  ⟨⟨.mv (.const (.bool false)), some 5, none⟩, []⟩]
def r31_1 : List XLine := [⟨⟨.mv (.const .nils), some 6, none⟩, []⟩]
def r31_2 : List XLine := [⟨⟨.mv (.slot 1), some 11, none⟩, []⟩,
  ⟨⟨.len .slice (.slot 11), some 12, none⟩, []⟩,
  ⟨⟨.mv (.const (.int .i64 (.ofNat 0))), some 13, none⟩, []⟩]
def r31_3 : List XLine := [⟨⟨.bin .lss 3 .num (.slot 13) (.slot 12), some 14, none⟩, []⟩]
def r31_4 : List XLine := [⟨⟨.iaddr 1 (.slot 11) (.slot 13), some 15, none⟩, []⟩,
  ⟨⟨.load false 1 (.slot 15), some 16, none⟩, []⟩,
  ⟨⟨.alloc [.nils], some 8, none⟩, []⟩,
  ⟨⟨.store 1 (.slot 8) (.slot 16), none, none⟩, []⟩]
def r31_5 : List XLine := [⟨⟨.mkfunc 43 [] [(.slot 8)], some 17, none⟩, []⟩,
  ⟨⟨.mv (.slot 17), some 9, none⟩, []⟩]
def r31_6 : List XLine := [⟨⟨.mv (.slot 0), some 18, none⟩, []⟩,
  ⟨⟨.nilCheck (.slot 18), some 19, none⟩, []⟩,
  ⟨⟨.faddr 2 (.slot 19), some 20, none⟩, []⟩,
  ⟨⟨.load false 1 (.slot 20), some 21, none⟩, []⟩,
  ⟨⟨.mv (.slot 9), some 22, none⟩, []⟩,
  ⟨⟨.call (.const (.func 45 [] [])) [(.slot 21), (.slot 22)], some 23, none⟩, []⟩,
  ⟨⟨.mv (.slot 23), some 10, none⟩, []⟩]
def r31_7 : List XLine := [⟨⟨.mv (.slot 10), some 24, none⟩, []⟩,
  ⟨⟨.bin .lss 3 .num (.slot 24) (.const (.int .i64 (.ofNat 0))), some 25, none⟩, []⟩]
def r31_8 : List XLine := [⟨⟨.mv (.const .nils), some 4, none⟩, []⟩,
  ⟨⟨.mv (.const (.bool false)), some 5, none⟩, []⟩]
def r31_9 : List XLine := [⟨⟨.mv (.slot 6), some 26, none⟩, []⟩,
  ⟨⟨.mv (.slot 0), some 27, none⟩, []⟩,
  ⟨⟨.nilCheck (.slot 27), some 28, none⟩, []⟩,
  ⟨⟨.faddr 2 (.slot 28), some 29, none⟩, []⟩,
  ⟨⟨.load false 1 (.slot 29), some 30, none⟩, []⟩,
  ⟨⟨.mv (.slot 10), some 31, none⟩, []⟩,
  ⟨⟨.iaddr 3 (.slot 30) (.slot 31), some 32, none⟩, []⟩,
  ⟨⟨.faddr 0 (.slot 32), some 33, none⟩, []⟩,
  ⟨⟨.load false 1 (.slot 33), some 34, none⟩, []⟩,
  ⟨⟨.bslice 1 [(.int .i64 (.ofNat 0))] [(0, 1, (.slot 34))] 1, some 35, none⟩, []⟩,
  ⟨⟨.append 1 8 (.slot 26) (.slot 35), some 36, none⟩, []⟩,
  ⟨⟨.mv (.slot 36), some 6, none⟩, []⟩]
def r31_10 : List XLine := [⟨⟨.bin .add 3 .num (.slot 13) (.const (.int .i64 (.ofNat 1))), some 37, none⟩, []⟩,
  ⟨⟨.mv (.slot 37), some 13, none⟩, []⟩]
def r31_11 : List XLine := [⟨⟨.mv (.slot 6), some 38, none⟩, []⟩,
  ⟨⟨.mv (.slot 38), some 4, none⟩, []⟩,
  ⟨⟨.mv (.const (.bool true)), some 5, none⟩, []⟩]
def xf31 : XFunc := ⟨(.seq (.region false r31_0)
  (.seq (.region false r31_1)
  (.seq (.seq (.region false r31_2)
  (.block 0 (.loop (.seq (.region false r31_3)
  (.seq (.cond (.slot 14)
  .skip
  (.exit 0))
  (.seq (.block 1 (.seq (.region false r31_4)
  (.seq (.region false r31_5)
  (.seq (.region false r31_6)
  (.seq (.seq (.region false r31_7)
  (.cond (.slot 25)
  (.seq (.region false r31_8)
  .ret)
  .skip))
  (.region false r31_9))))))
  (.region false r31_10)))))))
  (.seq (.region false r31_11)
  .ret)))),
  [.tmp 4, .tmp 5]⟩
theorem xf31_ok : compFunc Tryz.prog Tryz.f31 = some xf31 := by kernel_rfl
/- threshing/cnf.Normal -/
def r32_0 : List XLine := [⟨⟨.mv (.const .nils), some 2, none⟩, []⟩,
  ⟨⟨.mv (.const (.bool false)), some 3, none⟩, []⟩]
def r32_1 : List XLine := [⟨⟨.mv (.slot 0), some 7, none⟩, []⟩,
  ⟨⟨.call (.const (.func 46 [] [])) [(.slot 7)], some 8, none⟩, []⟩,
  ⟨⟨.mv (.slot 8), some 4, none⟩, []⟩]
def r32_2 : List XLine := [⟨⟨.mv (.slot 4), some 9, none⟩, []⟩,
  ⟨⟨.call (.const (.func 47 [] [])) [(.slot 9), (.const (.func 48 [] []))], some 10, none⟩, []⟩]
def r32_3 : List XLine := [⟨⟨.mv (.slot 4), some 11, none⟩, []⟩,
  ⟨⟨.call (.const (.func 49 [] [])) [(.slot 11)], some 12, none⟩, []⟩,
  ⟨⟨.mv (.slot 12), some 4, none⟩, []⟩]
def r32_4 : List XLine := [⟨⟨.mv (.const (.bool false)), some 5, none⟩, []⟩]
def r32_5 : List XLine := [⟨⟨.mv (.slot 4), some 13, none⟩, []⟩,
  ⟨⟨.len .slice (.slot 13), some 14, none⟩, []⟩,
  ⟨⟨.mv (.const (.int .i64 (.ofNat 0))), some 15, none⟩, []⟩]
def r32_6 : List XLine := [⟨⟨.bin .lss 3 .num (.slot 15) (.slot 14), some 16, none⟩, []⟩]
def r32_7 : List XLine := [⟨⟨.mv (.slot 15), some 17, none⟩, []⟩,
  ⟨⟨.mv (.slot 17), some 6, none⟩, []⟩]
def r32_8 : List XLine := [⟨⟨.mv (.slot 5), some 18, none⟩, []⟩,
  ⟨⟨.mv (.slot 18), some 19, none⟩, []⟩,
  ⟨⟨.mv (.slot 6), some 20, some (19, false)⟩, []⟩,
  ⟨⟨.bin .gtr 3 .num (.slot 20) (.const (.int .i64 (.ofNat 0))), some 21, some (19, false)⟩, []⟩,
  ⟨⟨.mv (.slot 21), some 22, some (19, false)⟩, []⟩,
  ⟨⟨.mv (.slot 4), some 23, some (22, true)⟩, []⟩,
  ⟨⟨.mv (.slot 6), some 24, some (22, true)⟩, []⟩,
  ⟨⟨.iaddr 1 (.slot 23) (.slot 24), some 25, some (22, true)⟩, []⟩,
  ⟨⟨.load false 1 (.slot 25), some 26, some (22, true)⟩, []⟩,
  ⟨⟨.bin .gtr 22 .num (.slot 26) (.const (.int .i32 (.ofNat 0))), some 27, some (22, true)⟩, []⟩,
  ⟨⟨.pick (.slot 22) (.slot 27) (.const (.bool false)), some 28, some (19, false)⟩, []⟩,
  ⟨⟨.mv (.slot 28), some 29, some (19, false)⟩, []⟩,
  ⟨⟨.mv (.slot 4), some 30, some (29, true)⟩, []⟩,
  ⟨⟨.mv (.slot 6), some 31, some (29, true)⟩, []⟩,
  ⟨⟨.iaddr 1 (.slot 30) (.slot 31), some 32, some (29, true)⟩, []⟩,
  ⟨⟨.load false 1 (.slot 32), some 33, some (29, true)⟩, []⟩,
  ⟨⟨.mv (.slot 4), some 34, some (29, true)⟩, []⟩,
  ⟨⟨.mv (.slot 6), some 35, some (29, true)⟩, []⟩,
  ⟨⟨.bin .sub 3 .num (.slot 35) (.const (.int .i64 (.ofNat 1))), some 36, some (29, true)⟩, []⟩,
  ⟨⟨.iaddr 1 (.slot 34) (.slot 36), some 37, some (29, true)⟩, []⟩,
  ⟨⟨.load false 1 (.slot 37), some 38, some (29, true)⟩, []⟩,
  ⟨⟨.un .neg (.slot 38), some 39, some (29, true)⟩, []⟩,
  ⟨⟨.bin .eql 22 .num (.slot 33) (.slot 39), some 40, some (29, true)⟩, []⟩,
  ⟨⟨.pick (.slot 29) (.slot 40) (.const (.bool false)), some 41, some (19, false)⟩, []⟩,
  ⟨⟨.pick (.slot 19) (.const (.bool true)) (.slot 41), some 42, none⟩, []⟩,
  ⟨⟨.mv (.slot 42), some 5, none⟩, []⟩]
def r32_9 : List XLine := [⟨⟨.bin .add 3 .num (.slot 15) (.const (.int .i64 (.ofNat 1))), some 43, none⟩, []⟩,
  ⟨⟨.mv (.slot 43), some 15, none⟩, []⟩]
def r32_10 : List XLine := [⟨⟨.mv (.slot 4), some 44, none⟩, []⟩,
  ⟨⟨.call (.const (.func 50 [] [])) [(.slot 44)], some 45, none⟩, []⟩,
  ⟨⟨.mv (.slot 5), some 46, none⟩, []⟩,
  ⟨⟨.mv (.slot 45), some 2, none⟩, []⟩,
  ⟨⟨.mv (.slot 46), some 3, none⟩, []⟩]
def xf32 : XFunc := ⟨(.seq (.region false r32_0)
  (.seq (.region false r32_1)
  (.seq (.region false r32_2)
  (.seq (.region false r32_3)
  (.seq (.region false r32_4)
  (.seq (.seq (.region false r32_5)
  (.block 0 (.loop (.seq (.region false r32_6)
  (.seq (.cond (.slot 16)
  .skip
  (.exit 0))
  (.seq (.block 1 (.seq (.region false r32_7)
  (.region true r32_8)))
  (.region false r32_9)))))))
  (.seq (.region false r32_10)
  .ret))))))),
  [.tmp 2, .tmp 3]⟩
theorem xf32_ok : compFunc Tryz.prog Tryz.f32 = some xf32 := by kernel_rfl
/- slices.Contains[threshing/api.Clause,threshing/api.Lit] -/
def r33_0 : List XLine := [⟨⟨.mv (.const (.bool false)), some 4, none⟩, []⟩]
def r33_1 : List XLine := [⟨⟨.mv (.slot 0), some 5, none⟩, []⟩,
  ⟨⟨.mv (.slot 1), some 6, none⟩, []⟩,
  ⟨⟨.call (.const (.func 51 [] [])) [(.slot 5), (.slot 6)], some 7, none⟩, []⟩,
  ⟨⟨.bin .geq 3 .num (.slot 7) (.const (.int .i64 (.ofNat 0))), some 8, none⟩, []⟩,
  ⟨⟨.mv (.slot 8), some 4, none⟩, []⟩]
def xf33 : XFunc := ⟨(.seq (.region false r33_0)
  (.seq (.region false r33_1)
  .ret)),
  [.tmp 4]⟩
theorem xf33_ok : compFunc Tryz.prog Tryz.f33 = some xf33 := by kernel_rfl
/- threshing/cnf.Right -/
def r34_0 : List XLine := [⟨⟨.box (.slot 0), some 1, none⟩, []⟩,
  ⟨⟨.mv (.const (.int .i64 (.ofNat 0))), some 2, none⟩, []⟩]
def r34_1 : List XLine := [⟨⟨.faddr 0 (.slot 1), some 9, none⟩, []⟩,
  ⟨⟨.load false 1 (.slot 9), some 10, none⟩, []⟩,
  ⟨⟨.bin .lss 3 .num (.slot 10) (.const (.int .i64 (.ofNat 0))), some 11, none⟩, []⟩,
  ⟨⟨.mv (.slot 11), some 8, none⟩, []⟩]
def r34_2 : List XLine := [⟨⟨.faddr 0 (.slot 1), some 12, none⟩, []⟩,
  ⟨⟨.load false 1 (.slot 12), some 13, none⟩, []⟩,
  ⟨⟨.bin .gtr 3 .num (.slot 13) (.const (.int .i64 (.ofNat 1048576))), some 14, none⟩, []⟩,
  ⟨⟨.mv (.slot 14), some 8, none⟩, []⟩]
def r34_3 : List XLine := [⟨⟨.mv (.const (.int .i64 (.ofNat 2))), some 2, none⟩, []⟩]
def r34_4 : List XLine := [⟨⟨.faddr 1 (.slot 1), some 16, none⟩, []⟩,
  ⟨⟨.load false 1 (.slot 16), some 17, none⟩, []⟩,
  ⟨⟨.len .slice (.slot 17), some 18, none⟩, []⟩,
  ⟨⟨.bin .gtr 3 .num (.slot 18) (.const (.int .i64 (.ofNat 1048576))), some 19, none⟩, []⟩,
  ⟨⟨.mv (.slot 19), some 15, none⟩, []⟩]
def r34_5 : List XLine := [⟨⟨.mv (.const (.int .i64 (.ofNat 3))), some 2, none⟩, []⟩]
def r34_6 : List XLine := [⟨⟨.mv (.const (.int .i64 (.ofNat 16777216))), some 3, none⟩, []⟩]
def r34_7 : List XLine := [⟨⟨.faddr 1 (.slot 1), some 20, none⟩, []⟩,
  ⟨⟨.load false 1 (.slot 20), some 21, none⟩, []⟩,
  ⟨⟨.len .slice (.slot 21), some 22, none⟩, []⟩,
  ⟨⟨.mv (.const (.int .i64 (.ofNat 0))), some 23, none⟩, []⟩]
def r34_8 : List XLine := [⟨⟨.bin .lss 3 .num (.slot 23) (.slot 22), some 24, none⟩, []⟩]
def r34_9 : List XLine := [⟨⟨.iaddr 1 (.slot 21) (.slot 23), some 25, none⟩, []⟩,
  ⟨⟨.load false 1 (.slot 25), some 26, none⟩, []⟩,
  ⟨⟨.mv (.slot 26), some 5, none⟩, []⟩]
def r34_10 : List XLine := [⟨⟨.mv (.slot 5), some 27, none⟩, []⟩,
  ⟨⟨.len .slice (.slot 27), some 28, none⟩, []⟩,
  ⟨⟨.mv (.const (.int .i64 (.ofNat 0))), some 29, none⟩, []⟩]
def r34_11 : List XLine := [⟨⟨.bin .lss 3 .num (.slot 29) (.slot 28), some 30, none⟩, []⟩]
def r34_12 : List XLine := [⟨⟨.iaddr 1 (.slot 27) (.slot 29), some 31, none⟩, []⟩,
  ⟨⟨.load false 1 (.slot 31), some 32, none⟩, []⟩,
  ⟨⟨.mv (.slot 32), some 7, none⟩, []⟩]
def r34_13 : List XLine := [⟨⟨.mv (.slot 3), some 33, none⟩, []⟩,
  ⟨⟨.bin .eql 3 .num (.slot 33) (.const (.int .i64 (.ofNat 0))), some 34, none⟩, []⟩]
def r34_14 : List XLine := [⟨⟨.mv (.const (.int .i64 (.ofNat 3))), some 2, none⟩, []⟩]
def r34_15 : List XLine := [⟨⟨.mv (.slot 3), some 35, none⟩, []⟩,
  ⟨⟨.bin .sub 3 .num (.slot 35) (.const (.int .i64 (.ofNat 1))), some 36, none⟩, []⟩,
  ⟨⟨.mv (.slot 36), some 3, none⟩, []⟩]
def r34_16 : List XLine := [⟨⟨.mv (.slot 7), some 37, none⟩, []⟩,
  ⟨⟨.bin .eql 22 .num (.slot 37) (.const (.int .i32 (.ofNat 0))), some 38, none⟩, []⟩,
  ⟨⟨.mv (.slot 38), some 39, none⟩, []⟩,
  ⟨⟨.mv (.slot 7), some 40, some (39, false)⟩, []⟩,
  ⟨⟨.faddr 0 (.slot 1), some 42, some (39, false)⟩, []⟩,
  ⟨⟨.load false 1 (.slot 42), some 43, some (39, false)⟩, []⟩,
  ⟨⟨.call (.const (.func 9 [] [])) [(.slot 40)], some 41, some (39, false)⟩, [⟨.load false 1 (.slot 42), some 43, some (39, false)⟩]⟩,
  ⟨⟨.bin .gtr 3 .num (.slot 41) (.slot 43), some 44, some (39, false)⟩, []⟩,
  ⟨⟨.pick (.slot 39) (.const (.bool true)) (.slot 44), some 45, none⟩, []⟩]
def r34_17 : List XLine := [⟨⟨.mv (.const (.int .i64 (.ofNat 4))), some 2, none⟩, []⟩]
def r34_18 : List XLine := [⟨⟨.bin .add 3 .num (.slot 29) (.const (.int .i64 (.ofNat 1))), some 46, none⟩, []⟩,
  ⟨⟨.mv (.slot 46), some 29, none⟩, []⟩]
def r34_19 : List XLine := [⟨⟨.bin .add 3 .num (.slot 23) (.const (.int .i64 (.ofNat 1))), some 47, none⟩, []⟩,
  ⟨⟨.mv (.slot 47), some 23, none⟩, []⟩]
def r34_20 : List XLine := [⟨⟨.mv (.const (.int .i64 (.ofNat 0))), some 2, none⟩, []⟩]
def xf34 : XFunc := ⟨(.seq (.region false r34_0)
  (.seq (.block 0 (.seq (.seq (.region false r34_1)
  (.cond (.slot 8)
  .skip
  (.region false r34_2)))
  (.cond (.slot 8)
  (.seq (.region false r34_3)
  .ret)
  (.seq (.region false r34_4)
  (.cond (.slot 15)
  (.seq (.region false r34_5)
  .ret)
  .skip)))))
  (.seq (.region false r34_6)
  (.seq (.seq (.region false r34_7)
  (.block 1 (.loop (.seq (.region false r34_8)
  (.seq (.cond (.slot 24)
  .skip
  (.exit 1))
  (.seq (.block 2 (.seq (.region false r34_9)
  (.seq (.region false r34_10)
  (.block 3 (.loop (.seq (.region false r34_11)
  (.seq (.cond (.slot 30)
  .skip
  (.exit 3))
  (.seq (.block 4 (.seq (.region false r34_12)
  (.seq (.seq (.region false r34_13)
  (.cond (.slot 34)
  (.seq (.region false r34_14)
  .ret)
  .skip))
  (.seq (.region false r34_15)
  (.seq (.region true r34_16)
  (.cond (.slot 45)
  (.seq (.region false r34_17)
  .ret)
  .skip))))))
  (.region false r34_18)))))))))
  (.region false r34_19)))))))
  (.seq (.region false r34_20)
  .ret))))),
  [.tmp 2]⟩
theorem xf34_ok : compFunc Tryz.prog Tryz.f34 = some xf34 := by kernel_rfl
/- (*threshing/base.Base).put -/
def r35_0 : List XLine := [⟨⟨.mv (.slot 0), some 8, none⟩, []⟩,
  ⟨⟨.nilCheck (.slot 8), some 9, none⟩, []⟩,
  ⟨⟨.faddr 4 (.slot 9), some 10, none⟩, []⟩,
  ⟨⟨.load false 1 (.slot 10), some 11, none⟩, []⟩,
  ⟨⟨.bin .add 2 .num (.slot 11) (.const (.int .i64 (.ofNat 1))), some 12, none⟩, []⟩,
  ⟨⟨.nilCheck (.slot 8), some 13, none⟩, []⟩,
  ⟨⟨.faddr 4 (.slot 13), some 14, none⟩, []⟩,
  ⟨⟨.store 1 (.slot 14) (.slot 12), none, none⟩, []⟩]
def r35_1 : List XLine := [⟨⟨.mv (.slot 0), some 15, none⟩, []⟩,
  ⟨⟨.nilCheck (.slot 15), some 16, none⟩, []⟩,
  ⟨⟨.faddr 1 (.slot 16), some 17, none⟩, []⟩,
  ⟨⟨.load false 1 (.slot 17), some 18, none⟩, []⟩,
  ⟨⟨.mv (.slot 0), some 19, none⟩, []⟩,
  ⟨⟨.nilCheck (.slot 19), some 20, none⟩, []⟩,
  ⟨⟨.faddr 4 (.slot 20), some 21, none⟩, []⟩,
  ⟨⟨.load false 1 (.slot 21), some 22, none⟩, []⟩,
  ⟨⟨.mv (.slot 0), some 23, none⟩, []⟩,
  ⟨⟨.nilCheck (.slot 23), some 24, none⟩, []⟩,
  ⟨⟨.faddr 4 (.slot 24), some 25, none⟩, []⟩,
  ⟨⟨.load false 1 (.slot 25), some 26, none⟩, []⟩,
  ⟨⟨.mv (.slot 1), some 27, none⟩, []⟩,
  ⟨⟨.mv (.slot 2), some 29, none⟩, []⟩,
  ⟨⟨.call (.const (.func 46 [] [])) [(.slot 27)], some 28, none⟩, [⟨.load false 1 (.slot 17), some 18, none⟩, ⟨.load false 1 (.slot 21), some 22, none⟩, ⟨.load false 1 (.slot 25), some 26, none⟩]⟩,
  ⟨⟨.build [(.int .i64 (.ofNat 0)), .nils, (.bool false)] [(0, 1, (.slot 26)), (1, 1, (.slot 28)), (2, 1, (.slot 29))], some 30, none⟩, []⟩,
  ⟨⟨.mapup .i64 (.slot 18) (.slot 22) (.slot 30), none, none⟩, []⟩]
def r35_2 : List XLine := [⟨⟨.mv (.slot 1), some 31, none⟩, []⟩,
  ⟨⟨.len .slice (.slot 31), some 32, none⟩, []⟩,
  ⟨⟨.bin .eql 3 .num (.slot 32) (.const (.int .i64 (.ofNat 0))), some 33, none⟩, []⟩]
def r35_3 : List XLine := [⟨⟨.mv (.slot 0), some 34, none⟩, []⟩,
  ⟨⟨.nilCheck (.slot 34), some 35, none⟩, []⟩,
  ⟨⟨.faddr 3 (.slot 35), some 36, none⟩, []⟩,
  ⟨⟨.load false 1 (.slot 36), some 37, none⟩, []⟩,
  ⟨⟨.mv (.slot 0), some 38, none⟩, []⟩,
  ⟨⟨.nilCheck (.slot 38), some 39, none⟩, []⟩,
  ⟨⟨.faddr 4 (.slot 39), some 40, none⟩, []⟩,
  ⟨⟨.load false 1 (.slot 40), some 41, none⟩, []⟩,
  ⟨⟨.mapup .i64 (.slot 37) (.slot 41) (.const (.bool true)), none, none⟩, []⟩]
def r35_4 : List XLine := [⟨⟨.mv (.slot 1), some 42, none⟩, []⟩,
  ⟨⟨.len .slice (.slot 42), some 43, none⟩, []⟩,
  ⟨⟨.mv (.const (.int .i64 (.ofNat 0))), some 44, none⟩, []⟩]
def r35_5 : List XLine := [⟨⟨.bin .lss 3 .num (.slot 44) (.slot 43), some 45, none⟩, []⟩]
def r35_6 : List XLine := [⟨⟨.iaddr 1 (.slot 42) (.slot 44), some 46, none⟩, []⟩,
  ⟨⟨.load false 1 (.slot 46), some 47, none⟩, []⟩,
  ⟨⟨.mv (.slot 47), some 7, none⟩, []⟩]
def r35_7 : List XLine := [⟨⟨.mv (.slot 0), some 48, none⟩, []⟩,
  ⟨⟨.nilCheck (.slot 48), some 49, none⟩, []⟩,
  ⟨⟨.faddr 2 (.slot 49), some 50, none⟩, []⟩,
  ⟨⟨.load false 1 (.slot 50), some 51, none⟩, []⟩,
  ⟨⟨.mv (.slot 7), some 52, none⟩, []⟩,
  ⟨⟨.lookup .i32 .nilm (.slot 51) (.slot 52) false, some 53, none⟩, []⟩,
  ⟨⟨.bin .eql 60 .map (.slot 53) (.const .nilm), some 54, none⟩, []⟩]
def r35_8 : List XLine := [⟨⟨.mv (.slot 0), some 55, none⟩, []⟩,
  ⟨⟨.nilCheck (.slot 55), some 56, none⟩, []⟩,
  ⟨⟨.faddr 2 (.slot 56), some 57, none⟩, []⟩,
  ⟨⟨.load false 1 (.slot 57), some 58, none⟩, []⟩,
  ⟨⟨.mv (.slot 7), some 59, none⟩, []⟩,
  ⟨⟨.mkmap .i64, some 60, none⟩, []⟩,
  ⟨⟨.mapup .i32 (.slot 58) (.slot 59) (.slot 60), none, none⟩, []⟩]
def r35_9 : List XLine := [⟨⟨.mv (.slot 0), some 61, none⟩, []⟩,
  ⟨⟨.nilCheck (.slot 61), some 62, none⟩, []⟩,
  ⟨⟨.faddr 2 (.slot 62), some 63, none⟩, []⟩,
  ⟨⟨.load false 1 (.slot 63), some 64, none⟩, []⟩,
  ⟨⟨.mv (.slot 7), some 65, none⟩, []⟩,
  ⟨⟨.lookup .i32 .nilm (.slot 64) (.slot 65) false, some 66, none⟩, []⟩,
  ⟨⟨.mv (.slot 0), some 67, none⟩, []⟩,
  ⟨⟨.nilCheck (.slot 67), some 68, none⟩, []⟩,
  ⟨⟨.faddr 4 (.slot 68), some 69, none⟩, []⟩,
  ⟨⟨.load false 1 (.slot 69), some 70, none⟩, []⟩,
  ⟨⟨.mapup .i64 (.slot 66) (.slot 70) (.const (.bool true)), none, none⟩, []⟩]
def r35_10 : List XLine := [⟨⟨.bin .add 3 .num (.slot 44) (.const (.int .i64 (.ofNat 1))), some 71, none⟩, []⟩,
  ⟨⟨.mv (.slot 71), some 44, none⟩, []⟩]
def xf35 : XFunc := ⟨(.seq (.region false r35_0)
  (.seq (.region true r35_1)
  (.seq (.seq (.region false r35_2)
  (.cond (.slot 33)
  (.region true r35_3)
  .skip))
  (.seq (.region false r35_4)
  (.block 0 (.loop (.seq (.region false r35_5)
  (.seq (.cond (.slot 45)
  .skip
  (.exit 0))
  (.seq (.block 1 (.seq (.region false r35_6)
  (.seq (.seq (.region false r35_7)
  (.cond (.slot 54)
  (.region false r35_8)
  .skip))
  (.region true r35_9))))
  (.region false r35_10)))))))))),
  []⟩
theorem xf35_ok : compFunc Tryz.prog Tryz.f35 = some xf35 := by kernel_rfl
/- slices.Grow[[]int64,int64] -/
def r36_0 : List XLine := [⟨⟨.mv (.const .nils), some 4, none⟩, []⟩]
def r36_1 : List XLine := [⟨⟨.mv (.slot 1), some 5, none⟩, []⟩,
  ⟨⟨.bin .lss 3 .num (.slot 5) (.const (.int .i64 (.ofNat 0))), some 6, none⟩, []⟩]
def r36_2 : List XLine := [⟨⟨.mkif 9 (.const (.str ⟨⟨[99, 97, 110, 110, 111, 116, 32, 98, 101, 32, 110, 101, 103, 97, 116, 105, 118, 101]⟩⟩)), some 7, none⟩, []⟩,
  ⟨⟨.bad, none, none⟩, []⟩]
def r36_3 : List XLine := [⟨⟨.mv (.slot 1), some 8, none⟩, []⟩,
  ⟨⟨.mv (.slot 0), some 9, none⟩, []⟩,
  ⟨⟨.cap (.slot 9), some 10, none⟩, []⟩,
  ⟨⟨.mv (.slot 0), some 11, none⟩, []⟩,
  ⟨⟨.len .slice (.slot 11), some 12, none⟩, []⟩,
  ⟨⟨.bin .sub 3 .num (.slot 10) (.slot 12), some 13, none⟩, []⟩,
  ⟨⟨.bin .sub 3 .num (.slot 8) (.slot 13), some 14, none⟩, []⟩,
  ⟨⟨.mv (.slot 14), some 1, none⟩, []⟩]
def r36_4 : List XLine := [⟨⟨.mv (.slot 1), some 15, none⟩, []⟩,
  ⟨⟨.bin .gtr 3 .num (.slot 15) (.const (.int .i64 (.ofNat 0))), some 16, none⟩, []⟩]
def r36_5 : List XLine := [⟨⟨.mv (.slot 0), some 17, none⟩, []⟩,
  ⟨⟨.mv (.slot 0), some 18, none⟩, []⟩,
  ⟨⟨.cap (.slot 18), some 19, none⟩, []⟩,
  ⟨⟨.slc 1 (.slot 17) none (some (.slot 19)) none, some 20, none⟩, []⟩,
  ⟨⟨.mv (.slot 1), some 21, none⟩, []⟩,
  ⟨⟨.appendZ 1 8 [(.int .i64 (.ofNat 0))] (.slot 20) (.slot 21), some 22, none⟩, []⟩,
  ⟨⟨.mv (.slot 0), some 23, none⟩, []⟩,
  ⟨⟨.len .slice (.slot 23), some 24, none⟩, []⟩,
  ⟨⟨.slc 1 (.slot 22) none (some (.slot 24)) none, some 25, none⟩, []⟩,
  ⟨⟨.mv (.slot 25), some 0, none⟩, []⟩]
def r36_6 : List XLine := [⟨⟨.mv (.slot 0), some 26, none⟩, []⟩,
  ⟨⟨.mv (.slot 26), some 4, none⟩, []⟩]
def xf36 : XFunc := ⟨(.seq (.region false r36_0)
  (.seq (.seq (.region false r36_1)
  (.cond (.slot 6)
  (.region false r36_2)
  .skip))
  (.seq (.seq (.region false r36_3)
  (.seq (.region false r36_4)
  (.cond (.slot 16)
  (.region false r36_5)
  .skip)))
  (.seq (.region false r36_6)
  .ret)))),
  [.tmp 4]⟩
theorem xf36_ok : compFunc Tryz.prog Tryz.f36 = some xf36 := by kernel_rfl
/- slices.Sorted[int64] -/
def r37_0 : List XLine := [⟨⟨.mv (.const .nils), some 2, none⟩, []⟩]
def r37_1 : List XLine := [⟨⟨.mv (.slot 0), some 4, none⟩, []⟩,
  ⟨⟨.call (.const (.func 52 [] [])) [(.slot 4)], some 5, none⟩, []⟩,
  ⟨⟨.mv (.slot 5), some 3, none⟩, []⟩]
def r37_2 : List XLine := [⟨⟨.mv (.slot 3), some 6, none⟩, []⟩,
  ⟨⟨.call (.const (.func 26 [] [])) [(.slot 6)], some 7, none⟩, []⟩]
def r37_3 : List XLine := [⟨⟨.mv (.slot 3), some 8, none⟩, []⟩,
  ⟨⟨.mv (.slot 8), some 2, none⟩, []⟩]
def xf37 : XFunc := ⟨(.seq (.region false r37_0)
  (.seq (.region false r37_1)
  (.seq (.region false r37_2)
  (.seq (.region false r37_3)
  .ret)))),
  [.tmp 2]⟩
theorem xf37_ok : compFunc Tryz.prog Tryz.f37 = some xf37 := by kernel_rfl
/- maps.Keys[map[int64]bool,int64,bool] -/
def r38_0 : List XLine := [⟨⟨.box (.slot 0), some 1, none⟩, []⟩,
  ⟨⟨.mv (.const .nilf), some 2, none⟩, []⟩]
def r38_1 : List XLine := [⟨⟨.mkfunc 53 [] [(.slot 1)], some 3, none⟩, []⟩,
  ⟨⟨.mv (.slot 3), some 2, none⟩, []⟩]
def xf38 : XFunc := ⟨(.seq (.region false r38_0)
  (.seq (.region false r38_1)
  .ret)),
  [.tmp 2]⟩
theorem xf38_ok : compFunc Tryz.prog Tryz.f38 = some xf38 := by kernel_rfl
/- slices.pdqsortOrdered[int64] -/
def r39_0 : List XLine := [⟨⟨.mv (.const (.bool true)), some 8, none⟩, []⟩]
def r39_1 : List XLine := [⟨⟨.mv (.const (.bool true)), some 9, none⟩, []⟩]
def r39_2 : List XLine := [⟨⟨.mv (.slot 2), some 19, none⟩, []⟩,
  ⟨⟨.mv (.slot 1), some 20, none⟩, []⟩,
  ⟨⟨.bin .sub 3 .num (.slot 19) (.slot 20), some 21, none⟩, []⟩,
  ⟨⟨.mv (.slot 21), some 10, none⟩, []⟩]
def r39_3 : List XLine := [⟨⟨.mv (.slot 10), some 22, none⟩, []⟩,
  ⟨⟨.bin .leq 3 .num (.slot 22) (.const (.int .i64 (.ofNat 12))), some 23, none⟩, []⟩]
def r39_4 : List XLine := [⟨⟨.mv (.slot 0), some 24, none⟩, []⟩,
  ⟨⟨.mv (.slot 1), some 25, none⟩, []⟩,
  ⟨⟨.mv (.slot 2), some 26, none⟩, []⟩,
  ⟨⟨.call (.const (.func 54 [] [])) [(.slot 24), (.slot 25), (.slot 26)], some 27, none⟩, []⟩]
def r39_5 : List XLine := [⟨⟨.mv (.slot 3), some 28, none⟩, []⟩,
  ⟨⟨.bin .eql 3 .num (.slot 28) (.const (.int .i64 (.ofNat 0))), some 29, none⟩, []⟩]
def r39_6 : List XLine := [⟨⟨.mv (.slot 0), some 30, none⟩, []⟩,
  ⟨⟨.mv (.slot 1), some 31, none⟩, []⟩,
  ⟨⟨.mv (.slot 2), some 32, none⟩, []⟩,
  ⟨⟨.call (.const (.func 55 [] [])) [(.slot 30), (.slot 31), (.slot 32)], some 33, none⟩, []⟩]
def r39_7 : List XLine := [⟨⟨.mv (.slot 8), some 34, none⟩, []⟩,
  ⟨⟨.un .not (.slot 34), some 35, none⟩, []⟩]
def r39_8 : List XLine := [⟨⟨.mv (.slot 0), some 36, none⟩, []⟩,
  ⟨⟨.mv (.slot 1), some 37, none⟩, []⟩,
  ⟨⟨.mv (.slot 2), some 38, none⟩, []⟩,
  ⟨⟨.call (.const (.func 56 [] [])) [(.slot 36), (.slot 37), (.slot 38)], some 39, none⟩, []⟩]
def r39_9 : List XLine := [⟨⟨.mv (.slot 3), some 40, none⟩, []⟩,
  ⟨⟨.bin .sub 3 .num (.slot 40) (.const (.int .i64 (.ofNat 1))), some 41, none⟩, []⟩,
  ⟨⟨.mv (.slot 41), some 3, none⟩, []⟩]
def r39_10 : List XLine := [⟨⟨.mv (.slot 0), some 43, none⟩, []⟩,
  ⟨⟨.mv (.slot 1), some 44, none⟩, []⟩,
  ⟨⟨.mv (.slot 2), some 45, none⟩, []⟩,
  ⟨⟨.call (.const (.func 57 [] [])) [(.slot 43), (.slot 44), (.slot 45)], some 46, none⟩, []⟩,
  ⟨⟨.mv (.slot 46), some 42, none⟩, []⟩,
  ⟨⟨.extract (.slot 42) 0, some 47, none⟩, []⟩,
  ⟨⟨.extract (.slot 42) 1, some 48, none⟩, []⟩,
  ⟨⟨.mv (.slot 47), some 11, none⟩, []⟩,
  ⟨⟨.mv (.slot 48), some 12, none⟩, []⟩]
def r39_11 : List XLine := [⟨⟨.mv (.slot 12), some 49, none⟩, []⟩,
  ⟨⟨.bin .eql 106 .num (.slot 49) (.const (.int .i64 (.ofNat 2))), some 50, none⟩, []⟩]
def r39_12 : List XLine := [⟨⟨.mv (.slot 0), some 51, none⟩, []⟩,
  ⟨⟨.mv (.slot 1), some 52, none⟩, []⟩,
  ⟨⟨.mv (.slot 2), some 53, none⟩, []⟩,
  ⟨⟨.call (.const (.func 58 [] [])) [(.slot 51), (.slot 52), (.slot 53)], some 54, none⟩, []⟩]
def r39_13 : List XLine := [⟨⟨.mv (.slot 2), some 55, none⟩, []⟩,
  ⟨⟨.bin .sub 3 .num (.slot 55) (.const (.int .i64 (.ofNat 1))), some 56, none⟩, []⟩,
  ⟨⟨.mv (.slot 11), some 57, none⟩, []⟩,
  ⟨⟨.mv (.slot 1), some 58, none⟩, []⟩,
  ⟨⟨.bin .sub 3 .num (.slot 57) (.slot 58), some 59, none⟩, []⟩,
  ⟨⟨.bin .sub 3 .num (.slot 56) (.slot 59), some 60, none⟩, []⟩,
  ⟨⟨.mv (.slot 60), some 11, none⟩, []⟩]
def r39_14 : List XLine := [⟨⟨.mv (.const (.int .i64 (.ofNat 1))), some 12, none⟩, []⟩]
def r39_15 : List XLine := [⟨⟨.mv (.slot 8), some 61, none⟩, []⟩,
  ⟨⟨.mv (.slot 61), some 62, none⟩, []⟩,
  ⟨⟨.mv (.slot 9), some 63, some (62, true)⟩, []⟩,
  ⟨⟨.pick (.slot 62) (.slot 63) (.const (.bool false)), some 64, none⟩, []⟩,
  ⟨⟨.mv (.slot 64), some 65, none⟩, []⟩,
  ⟨⟨.mv (.slot 12), some 66, some (65, true)⟩, []⟩,
  ⟨⟨.bin .eql 106 .num (.slot 66) (.const (.int .i64 (.ofNat 1))), some 67, some (65, true)⟩, []⟩,
  ⟨⟨.pick (.slot 65) (.slot 67) (.const (.bool false)), some 68, none⟩, []⟩]
def r39_16 : List XLine := [⟨⟨.mv (.slot 0), some 69, none⟩, []⟩,
  ⟨⟨.mv (.slot 1), some 70, none⟩, []⟩,
  ⟨⟨.mv (.slot 2), some 71, none⟩, []⟩,
  ⟨⟨.call (.const (.func 59 [] [])) [(.slot 69), (.slot 70), (.slot 71)], some 72, none⟩, []⟩]
def r39_17 : List XLine := [⟨⟨.mv (.slot 1), some 73, none⟩, []⟩,
  ⟨⟨.bin .gtr 3 .num (.slot 73) (.const (.int .i64 (.ofNat 0))), some 74, none⟩, []⟩,
  ⟨⟨.mv (.slot 74), some 75, none⟩, []⟩,
  ⟨⟨.mv (.slot 0), some 76, some (75, true)⟩, []⟩,
  ⟨⟨.mv (.slot 1), some 77, some (75, true)⟩, []⟩,
  ⟨⟨.bin .sub 3 .num (.slot 77) (.const (.int .i64 (.ofNat 1))), some 78, some (75, true)⟩, []⟩,
  ⟨⟨.iaddr 1 (.slot 76) (.slot 78), some 79, some (75, true)⟩, []⟩,
  ⟨⟨.load false 1 (.slot 79), some 80, some (75, true)⟩, []⟩,
  ⟨⟨.mv (.slot 0), some 81, some (75, true)⟩, []⟩,
  ⟨⟨.mv (.slot 11), some 82, some (75, true)⟩, []⟩,
  ⟨⟨.iaddr 1 (.slot 81) (.slot 82), some 83, some (75, true)⟩, []⟩,
  ⟨⟨.load false 1 (.slot 83), some 84, some (75, true)⟩, []⟩,
  ⟨⟨.call (.const (.func 60 [] [])) [(.slot 80), (.slot 84)], some 85, some (75, true)⟩, []⟩,
  ⟨⟨.un .not (.slot 85), some 86, some (75, true)⟩, []⟩,
  ⟨⟨.pick (.slot 75) (.slot 86) (.const (.bool false)), some 87, none⟩, []⟩]
def r39_18 : List XLine := [⟨⟨.mv (.slot 0), some 88, none⟩, []⟩,
  ⟨⟨.mv (.slot 1), some 89, none⟩, []⟩,
  ⟨⟨.mv (.slot 2), some 90, none⟩, []⟩,
  ⟨⟨.mv (.slot 11), some 91, none⟩, []⟩,
  ⟨⟨.call (.const (.func 61 [] [])) [(.slot 88), (.slot 89), (.slot 90), (.slot 91)], some 92, none⟩, []⟩,
  ⟨⟨.mv (.slot 92), some 13, none⟩, []⟩]
def r39_19 : List XLine := [⟨⟨.mv (.slot 13), some 93, none⟩, []⟩,
  ⟨⟨.mv (.slot 93), some 1, none⟩, []⟩]
def r39_20 : List XLine := [⟨⟨.mv (.slot 0), some 95, none⟩, []⟩,
  ⟨⟨.mv (.slot 1), some 96, none⟩, []⟩,
  ⟨⟨.mv (.slot 2), some 97, none⟩, []⟩,
  ⟨⟨.mv (.slot 11), some 98, none⟩, []⟩,
  ⟨⟨.call (.const (.func 62 [] [])) [(.slot 95), (.slot 96), (.slot 97), (.slot 98)], some 99, none⟩, []⟩,
  ⟨⟨.mv (.slot 99), some 94, none⟩, []⟩,
  ⟨⟨.extract (.slot 94) 0, some 100, none⟩, []⟩,
  ⟨⟨.extract (.slot 94) 1, some 101, none⟩, []⟩,
  ⟨⟨.mv (.slot 100), some 14, none⟩, []⟩,
  ⟨⟨.mv (.slot 101), some 15, none⟩, []⟩]
def r39_21 : List XLine := [⟨⟨.mv (.slot 15), some 102, none⟩, []⟩,
  ⟨⟨.mv (.slot 102), some 9, none⟩, []⟩]
def r39_22 : List XLine := [⟨⟨.mv (.slot 14), some 103, none⟩, []⟩,
  ⟨⟨.mv (.slot 1), some 104, none⟩, []⟩,
  ⟨⟨.bin .sub 3 .num (.slot 103) (.slot 104), some 105, none⟩, []⟩,
  ⟨⟨.mv (.slot 2), some 106, none⟩, []⟩,
  ⟨⟨.mv (.slot 14), some 107, none⟩, []⟩,
  ⟨⟨.bin .sub 3 .num (.slot 106) (.slot 107), some 108, none⟩, []⟩,
  ⟨⟨.mv (.slot 105), some 16, none⟩, []⟩,
  ⟨⟨.mv (.slot 108), some 17, none⟩, []⟩]
def r39_23 : List XLine := [⟨⟨.mv (.slot 10), some 109, none⟩, []⟩,
  ⟨⟨.bin .quo 3 .num (.slot 109) (.const (.int .i64 (.ofNat 8))), some 110, none⟩, []⟩,
  ⟨⟨.mv (.slot 110), some 18, none⟩, []⟩]
def r39_24 : List XLine := [⟨⟨.mv (.slot 16), some 111, none⟩, []⟩,
  ⟨⟨.mv (.slot 17), some 112, none⟩, []⟩,
  ⟨⟨.bin .lss 3 .num (.slot 111) (.slot 112), some 113, none⟩, []⟩]
def r39_25 : List XLine := [⟨⟨.mv (.slot 16), some 114, none⟩, []⟩,
  ⟨⟨.mv (.slot 18), some 115, none⟩, []⟩,
  ⟨⟨.bin .geq 3 .num (.slot 114) (.slot 115), some 116, none⟩, []⟩,
  ⟨⟨.mv (.slot 116), some 8, none⟩, []⟩]
def r39_26 : List XLine := [⟨⟨.mv (.slot 0), some 117, none⟩, []⟩,
  ⟨⟨.mv (.slot 1), some 118, none⟩, []⟩,
  ⟨⟨.mv (.slot 14), some 119, none⟩, []⟩,
  ⟨⟨.mv (.slot 3), some 120, none⟩, []⟩,
  ⟨⟨.call (.const (.func 39 [] [])) [(.slot 117), (.slot 118), (.slot 119), (.slot 120)], some 121, none⟩, []⟩]
def r39_27 : List XLine := [⟨⟨.mv (.slot 14), some 122, none⟩, []⟩,
  ⟨⟨.bin .add 3 .num (.slot 122) (.const (.int .i64 (.ofNat 1))), some 123, none⟩, []⟩,
  ⟨⟨.mv (.slot 123), some 1, none⟩, []⟩]
def r39_28 : List XLine := [⟨⟨.mv (.slot 17), some 124, none⟩, []⟩,
  ⟨⟨.mv (.slot 18), some 125, none⟩, []⟩,
  ⟨⟨.bin .geq 3 .num (.slot 124) (.slot 125), some 126, none⟩, []⟩,
  ⟨⟨.mv (.slot 126), some 8, none⟩, []⟩]
def r39_29 : List XLine := [⟨⟨.mv (.slot 0), some 127, none⟩, []⟩,
  ⟨⟨.mv (.slot 14), some 128, none⟩, []⟩,
  ⟨⟨.bin .add 3 .num (.slot 128) (.const (.int .i64 (.ofNat 1))), some 129, none⟩, []⟩,
  ⟨⟨.mv (.slot 2), some 130, none⟩, []⟩,
  ⟨⟨.mv (.slot 3), some 131, none⟩, []⟩,
  ⟨⟨.call (.const (.func 39 [] [])) [(.slot 127), (.slot 129), (.slot 130), (.slot 131)], some 132, none⟩, []⟩]
def r39_30 : List XLine := [⟨⟨.mv (.slot 14), some 133, none⟩, []⟩,
  ⟨⟨.mv (.slot 133), some 2, none⟩, []⟩]
def xf39 : XFunc := ⟨(.seq (.region false r39_0)
  (.seq (.region false r39_1)
  (.block 0 (.loop (.block 1 (.seq (.region false r39_2)
  (.seq (.seq (.region false r39_3)
  (.cond (.slot 23)
  (.seq (.region false r39_4)
  .ret)
  .skip))
  (.seq (.seq (.region false r39_5)
  (.cond (.slot 29)
  (.seq (.region false r39_6)
  .ret)
  .skip))
  (.seq (.seq (.region false r39_7)
  (.cond (.slot 35)
  (.seq (.region false r39_8)
  (.region false r39_9))
  .skip))
  (.seq (.region false r39_10)
  (.seq (.seq (.region false r39_11)
  (.cond (.slot 50)
  (.seq (.region false r39_12)
  (.seq (.region false r39_13)
  (.region false r39_14)))
  .skip))
  (.seq (.seq (.region false r39_15)
  (.cond (.slot 68)
  (.seq (.region false r39_16)
  (.cond (.slot 72)
  .ret
  .skip))
  .skip))
  (.seq (.seq (.region true r39_17)
  (.cond (.slot 87)
  (.seq (.region false r39_18)
  (.seq (.region false r39_19)
  (.exit 1)))
  .skip))
  (.seq (.region false r39_20)
  (.seq (.region false r39_21)
  (.seq (.region false r39_22)
  (.seq (.region false r39_23)
  (.seq (.region false r39_24)
  (.cond (.slot 113)
  (.seq (.region false r39_25)
  (.seq (.region false r39_26)
  (.region false r39_27)))
  (.seq (.region false r39_28)
  (.seq (.region false r39_29)
  (.region false r39_30)))))))))))))))))))))),
  []⟩
theorem xf39_ok : compFunc Tryz.prog Tryz.f39 = some xf39 := by kernel_rfl
/- math/bits.Len -/
def r40_0 : List XLine := [⟨⟨.mv (.const (.int .i64 (.ofNat 0))), some 2, none⟩, []⟩]
def r40_1 : List XLine := [⟨⟨.mv (.slot 0), some 3, none⟩, []⟩,
  ⟨⟨.conv .u32 (.slot 3), some 4, none⟩, []⟩,
  ⟨⟨.call (.const (.func 63 [] [])) [(.slot 4)], some 5, none⟩, []⟩,
  ⟨⟨.mv (.slot 5), some 2, none⟩, []⟩]
def r40_2 : List XLine := [⟨⟨.mv (.slot 0), some 6, none⟩, []⟩,
  ⟨⟨.call (.const (.func 64 [] [])) [(.slot 6)], some 7, none⟩, []⟩,
  ⟨⟨.mv (.slot 7), some 2, none⟩, []⟩]
def xf40 : XFunc := ⟨(.seq (.region false r40_0)
  (.seq (.cond (.const (.bool false))
  (.seq (.region false r40_1)
  .ret)
  .skip)
  (.seq (.region false r40_2)
  .ret))),
  [.tmp 2]⟩
theorem xf40_ok : compFunc Tryz.prog Tryz.f40 = some xf40 := by kernel_rfl
end Go.Proofs.YtpbijmmjcdejoaaGreat

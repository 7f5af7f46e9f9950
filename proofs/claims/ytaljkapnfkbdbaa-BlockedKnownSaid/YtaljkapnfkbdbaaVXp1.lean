/- The functions of the program in X's code, printed by a program of ours; each is what the program's own is turned to. -/
import Derived.Test.YtaljkapnfkbdbaaProg
import Derived.Test.YtaljkapnfkbdbaaW0
import Derived.KernelRfl
namespace Go.Proofs.Ytaljkapnfkbdbaa
open Go.Xr
/- (*threshing/base.Base).put -/
def r23_0 : List XLine := [⟨⟨.mv (.slot 0), some 8, none⟩, []⟩,
  ⟨⟨.nilCheck (.slot 8), some 9, none⟩, []⟩,
  ⟨⟨.faddr 4 (.slot 9), some 10, none⟩, []⟩,
  ⟨⟨.load false 1 (.slot 10), some 11, none⟩, []⟩,
  ⟨⟨.bin .add 2 .num (.slot 11) (.const (.int .i64 (.ofNat 1))), some 12, none⟩, []⟩,
  ⟨⟨.nilCheck (.slot 8), some 13, none⟩, []⟩,
  ⟨⟨.faddr 4 (.slot 13), some 14, none⟩, []⟩,
  ⟨⟨.store 1 (.slot 14) (.slot 12), none, none⟩, []⟩]
def r23_1 : List XLine := [⟨⟨.mv (.slot 0), some 15, none⟩, []⟩,
  ⟨⟨.nilCheck (.slot 15), some 16, none⟩, []⟩,
  ⟨⟨.faddr 1 (.slot 16), some 17, none⟩, []⟩,
  ⟨⟨.load false 1 (.slot 17), some 18, none⟩, []⟩,
  ⟨⟨.mv (.slot 0), some 19, none⟩, []⟩,
  ⟨⟨.nilCheck (.slot 19), some 20, none⟩, []⟩,
  ⟨⟨.faddr 4 (.slot 20), some 21, none⟩, []⟩,
  ⟨⟨.load false 1 (.slot 21), some 22, none⟩, []⟩,
  ⟨⟨.mv (.slot 0), some 23, none⟩, []⟩,
  ⟨⟨.nilCheck (.slot 23), some 24, none⟩, []⟩,
  ⟨⟨.faddr 4 (.slot 24), some 25, none⟩, []⟩,
  ⟨⟨.load false 1 (.slot 25), some 26, none⟩, []⟩,
  ⟨⟨.mv (.slot 1), some 27, none⟩, []⟩,
  ⟨⟨.mv (.slot 2), some 29, none⟩, []⟩,
  ⟨⟨.call (.const (.func 16 [] [])) [(.slot 27)], some 28, none⟩, [⟨.load false 1 (.slot 17), some 18, none⟩, ⟨.load false 1 (.slot 21), some 22, none⟩, ⟨.load false 1 (.slot 25), some 26, none⟩]⟩,
  ⟨⟨.build [(.int .i64 (.ofNat 0)), .nils, (.bool false)] [(0, 1, (.slot 26)), (1, 1, (.slot 28)), (2, 1, (.slot 29))], some 30, none⟩, []⟩,
  ⟨⟨.mapup .i64 (.slot 18) (.slot 22) (.slot 30), none, none⟩, []⟩]
def r23_2 : List XLine := [⟨⟨.mv (.slot 1), some 31, none⟩, []⟩,
  ⟨⟨.len .slice (.slot 31), some 32, none⟩, []⟩,
  ⟨⟨.bin .eql 3 .num (.slot 32) (.const (.int .i64 (.ofNat 0))), some 33, none⟩, []⟩]
def r23_3 : List XLine := [⟨⟨.mv (.slot 0), some 34, none⟩, []⟩,
  ⟨⟨.nilCheck (.slot 34), some 35, none⟩, []⟩,
  ⟨⟨.faddr 3 (.slot 35), some 36, none⟩, []⟩,
  ⟨⟨.load false 1 (.slot 36), some 37, none⟩, []⟩,
  ⟨⟨.mv (.slot 0), some 38, none⟩, []⟩,
  ⟨⟨.nilCheck (.slot 38), some 39, none⟩, []⟩,
  ⟨⟨.faddr 4 (.slot 39), some 40, none⟩, []⟩,
  ⟨⟨.load false 1 (.slot 40), some 41, none⟩, []⟩,
  ⟨⟨.mapup .i64 (.slot 37) (.slot 41) (.const (.bool true)), none, none⟩, []⟩]
def r23_4 : List XLine := [⟨⟨.mv (.slot 1), some 42, none⟩, []⟩,
  ⟨⟨.len .slice (.slot 42), some 43, none⟩, []⟩,
  ⟨⟨.mv (.const (.int .i64 (.ofNat 0))), some 44, none⟩, []⟩]
def r23_5 : List XLine := [⟨⟨.bin .lss 3 .num (.slot 44) (.slot 43), some 45, none⟩, []⟩]
def r23_6 : List XLine := [⟨⟨.iaddr 1 (.slot 42) (.slot 44), some 46, none⟩, []⟩,
  ⟨⟨.load false 1 (.slot 46), some 47, none⟩, []⟩,
  ⟨⟨.mv (.slot 47), some 7, none⟩, []⟩]
def r23_7 : List XLine := [⟨⟨.mv (.slot 0), some 48, none⟩, []⟩,
  ⟨⟨.nilCheck (.slot 48), some 49, none⟩, []⟩,
  ⟨⟨.faddr 2 (.slot 49), some 50, none⟩, []⟩,
  ⟨⟨.load false 1 (.slot 50), some 51, none⟩, []⟩,
  ⟨⟨.mv (.slot 7), some 52, none⟩, []⟩,
  ⟨⟨.lookup .i32 .nilm (.slot 51) (.slot 52) false, some 53, none⟩, []⟩,
  ⟨⟨.bin .eql 58 .map (.slot 53) (.const .nilm), some 54, none⟩, []⟩]
def r23_8 : List XLine := [⟨⟨.mv (.slot 0), some 55, none⟩, []⟩,
  ⟨⟨.nilCheck (.slot 55), some 56, none⟩, []⟩,
  ⟨⟨.faddr 2 (.slot 56), some 57, none⟩, []⟩,
  ⟨⟨.load false 1 (.slot 57), some 58, none⟩, []⟩,
  ⟨⟨.mv (.slot 7), some 59, none⟩, []⟩,
  ⟨⟨.mkmap .i64, some 60, none⟩, []⟩,
  ⟨⟨.mapup .i32 (.slot 58) (.slot 59) (.slot 60), none, none⟩, []⟩]
def r23_9 : List XLine := [⟨⟨.mv (.slot 0), some 61, none⟩, []⟩,
  ⟨⟨.nilCheck (.slot 61), some 62, none⟩, []⟩,
  ⟨⟨.faddr 2 (.slot 62), some 63, none⟩, []⟩,
  ⟨⟨.load false 1 (.slot 63), some 64, none⟩, []⟩,
  ⟨⟨.mv (.slot 7), some 65, none⟩, []⟩,
  ⟨⟨.lookup .i32 .nilm (.slot 64) (.slot 65) false, some 66, none⟩, []⟩,
  ⟨⟨.mv (.slot 0), some 67, none⟩, []⟩,
  ⟨⟨.nilCheck (.slot 67), some 68, none⟩, []⟩,
  ⟨⟨.faddr 4 (.slot 68), some 69, none⟩, []⟩,
  ⟨⟨.load false 1 (.slot 69), some 70, none⟩, []⟩,
  ⟨⟨.mapup .i64 (.slot 66) (.slot 70) (.const (.bool true)), none, none⟩, []⟩]
def r23_10 : List XLine := [⟨⟨.bin .add 3 .num (.slot 44) (.const (.int .i64 (.ofNat 1))), some 71, none⟩, []⟩,
  ⟨⟨.mv (.slot 71), some 44, none⟩, []⟩]
def xf23 : XFunc := ⟨(.seq (.region false r23_0)
  (.seq (.region true r23_1)
  (.seq (.seq (.region false r23_2)
  (.cond (.slot 33)
  (.region true r23_3)
  .skip))
  (.seq (.region false r23_4)
  (.block 0 (.loop (.seq (.region false r23_5)
  (.seq (.cond (.slot 45)
  .skip
  (.exit 0))
  (.seq (.block 1 (.seq (.region false r23_6)
  (.seq (.seq (.region false r23_7)
  (.cond (.slot 54)
  (.region false r23_8)
  .skip))
  (.region true r23_9))))
  (.region false r23_10)))))))))),
  []⟩
theorem xf23_ok : compFunc Try.prog Try.f23 = some xf23 := by kernel_rfl
/- slices.Clone[[]int64,int64] -/
def r24_0 : List XLine := [⟨⟨.mv (.const .nils), some 2, none⟩, []⟩]
def r24_1 : List XLine := [⟨⟨.mv (.slot 0), some 3, none⟩, []⟩,
  ⟨⟨.bin .eql 39 .slice (.slot 3) (.const .nils), some 4, none⟩, []⟩]
def r24_2 : List XLine := [⟨⟨.mv (.const .nils), some 2, none⟩, []⟩]
def r24_3 : List XLine := [⟨⟨.bslice 1 [] [] 0, some 5, none⟩, []⟩,
  ⟨⟨.mv (.slot 0), some 6, none⟩, []⟩,
  ⟨⟨.append 1 8 (.slot 5) (.slot 6), some 7, none⟩, []⟩,
  ⟨⟨.mv (.slot 7), some 2, none⟩, []⟩]
def xf24 : XFunc := ⟨(.seq (.region false r24_0)
  (.seq (.seq (.region false r24_1)
  (.cond (.slot 4)
  (.seq (.region false r24_2)
  .ret)
  .skip))
  (.seq (.region false r24_3)
  .ret))),
  [.tmp 2]⟩
theorem xf24_ok : compFunc Try.prog Try.f24 = some xf24 := by kernel_rfl
/- (*threshing/base.Base).note -/
def r25_0 : List XLine := [⟨⟨.box (.slot 1), some 3, none⟩, []⟩,
  ⟨⟨.mv (.const (.int .i64 (.ofNat 0))), some 4, none⟩, []⟩]
def r25_1 : List XLine := [⟨⟨.mv (.slot 0), some 5, none⟩, []⟩,
  ⟨⟨.mv (.slot 0), some 6, none⟩, []⟩,
  ⟨⟨.nilCheck (.slot 6), some 7, none⟩, []⟩,
  ⟨⟨.faddr 7 (.slot 7), some 8, none⟩, []⟩,
  ⟨⟨.load false 1 (.slot 8), some 9, none⟩, []⟩,
  ⟨⟨.load true 6 (.slot 3), some 10, none⟩, []⟩,
  ⟨⟨.bslice 6 [(.int .u8 (.ofNat 0)), (.int .i64 (.ofNat 0)), (.int .i64 (.ofNat 0)), (.bool false), .nils, .nils] [(0, 6, (.slot 10))] 1, some 11, none⟩, [⟨.load false 1 (.slot 8), some 9, none⟩]⟩,
  ⟨⟨.append 6 80 (.slot 9) (.slot 11), some 12, none⟩, []⟩,
  ⟨⟨.nilCheck (.slot 5), some 13, none⟩, []⟩,
  ⟨⟨.faddr 7 (.slot 13), some 14, none⟩, []⟩,
  ⟨⟨.store 1 (.slot 14) (.slot 12), none, none⟩, []⟩]
def r25_2 : List XLine := [⟨⟨.mv (.const (.int .i64 (.ofNat 0))), some 4, none⟩, []⟩]
def xf25 : XFunc := ⟨(.seq (.region false r25_0)
  (.seq (.region true r25_1)
  (.seq (.region false r25_2)
  .ret))),
  [.tmp 4]⟩
theorem xf25_ok : compFunc Try.prog Try.f25 = some xf25 := by kernel_rfl
/- threshing/cnf.Right -/
def r26_0 : List XLine := [⟨⟨.box (.slot 0), some 1, none⟩, []⟩,
  ⟨⟨.mv (.const (.int .i64 (.ofNat 0))), some 2, none⟩, []⟩]
def r26_1 : List XLine := [⟨⟨.faddr 0 (.slot 1), some 9, none⟩, []⟩,
  ⟨⟨.load false 1 (.slot 9), some 10, none⟩, []⟩,
  ⟨⟨.bin .lss 3 .num (.slot 10) (.const (.int .i64 (.ofNat 0))), some 11, none⟩, []⟩,
  ⟨⟨.mv (.slot 11), some 8, none⟩, []⟩]
def r26_2 : List XLine := [⟨⟨.faddr 0 (.slot 1), some 12, none⟩, []⟩,
  ⟨⟨.load false 1 (.slot 12), some 13, none⟩, []⟩,
  ⟨⟨.bin .gtr 3 .num (.slot 13) (.const (.int .i64 (.ofNat 1048576))), some 14, none⟩, []⟩,
  ⟨⟨.mv (.slot 14), some 8, none⟩, []⟩]
def r26_3 : List XLine := [⟨⟨.mv (.const (.int .i64 (.ofNat 2))), some 2, none⟩, []⟩]
def r26_4 : List XLine := [⟨⟨.faddr 1 (.slot 1), some 16, none⟩, []⟩,
  ⟨⟨.load false 1 (.slot 16), some 17, none⟩, []⟩,
  ⟨⟨.len .slice (.slot 17), some 18, none⟩, []⟩,
  ⟨⟨.bin .gtr 3 .num (.slot 18) (.const (.int .i64 (.ofNat 1048576))), some 19, none⟩, []⟩,
  ⟨⟨.mv (.slot 19), some 15, none⟩, []⟩]
def r26_5 : List XLine := [⟨⟨.mv (.const (.int .i64 (.ofNat 3))), some 2, none⟩, []⟩]
def r26_6 : List XLine := [⟨⟨.mv (.const (.int .i64 (.ofNat 16777216))), some 3, none⟩, []⟩]
def r26_7 : List XLine := [⟨⟨.faddr 1 (.slot 1), some 20, none⟩, []⟩,
  ⟨⟨.load false 1 (.slot 20), some 21, none⟩, []⟩,
  ⟨⟨.len .slice (.slot 21), some 22, none⟩, []⟩,
  ⟨⟨.mv (.const (.int .i64 (.ofNat 0))), some 23, none⟩, []⟩]
def r26_8 : List XLine := [⟨⟨.bin .lss 3 .num (.slot 23) (.slot 22), some 24, none⟩, []⟩]
def r26_9 : List XLine := [⟨⟨.iaddr 1 (.slot 21) (.slot 23), some 25, none⟩, []⟩,
  ⟨⟨.load false 1 (.slot 25), some 26, none⟩, []⟩,
  ⟨⟨.mv (.slot 26), some 5, none⟩, []⟩]
def r26_10 : List XLine := [⟨⟨.mv (.slot 5), some 27, none⟩, []⟩,
  ⟨⟨.len .slice (.slot 27), some 28, none⟩, []⟩,
  ⟨⟨.mv (.const (.int .i64 (.ofNat 0))), some 29, none⟩, []⟩]
def r26_11 : List XLine := [⟨⟨.bin .lss 3 .num (.slot 29) (.slot 28), some 30, none⟩, []⟩]
def r26_12 : List XLine := [⟨⟨.iaddr 1 (.slot 27) (.slot 29), some 31, none⟩, []⟩,
  ⟨⟨.load false 1 (.slot 31), some 32, none⟩, []⟩,
  ⟨⟨.mv (.slot 32), some 7, none⟩, []⟩]
def r26_13 : List XLine := [⟨⟨.mv (.slot 3), some 33, none⟩, []⟩,
  ⟨⟨.bin .eql 3 .num (.slot 33) (.const (.int .i64 (.ofNat 0))), some 34, none⟩, []⟩]
def r26_14 : List XLine := [⟨⟨.mv (.const (.int .i64 (.ofNat 3))), some 2, none⟩, []⟩]
def r26_15 : List XLine := [⟨⟨.mv (.slot 3), some 35, none⟩, []⟩,
  ⟨⟨.bin .sub 3 .num (.slot 35) (.const (.int .i64 (.ofNat 1))), some 36, none⟩, []⟩,
  ⟨⟨.mv (.slot 36), some 3, none⟩, []⟩]
def r26_16 : List XLine := [⟨⟨.mv (.slot 7), some 37, none⟩, []⟩,
  ⟨⟨.bin .eql 24 .num (.slot 37) (.const (.int .i32 (.ofNat 0))), some 38, none⟩, []⟩,
  ⟨⟨.mv (.slot 38), some 39, none⟩, []⟩,
  ⟨⟨.mv (.slot 7), some 40, some (39, false)⟩, []⟩,
  ⟨⟨.faddr 0 (.slot 1), some 42, some (39, false)⟩, []⟩,
  ⟨⟨.load false 1 (.slot 42), some 43, some (39, false)⟩, []⟩,
  ⟨⟨.call (.const (.func 41 [] [])) [(.slot 40)], some 41, some (39, false)⟩, [⟨.load false 1 (.slot 42), some 43, some (39, false)⟩]⟩,
  ⟨⟨.bin .gtr 3 .num (.slot 41) (.slot 43), some 44, some (39, false)⟩, []⟩,
  ⟨⟨.pick (.slot 39) (.const (.bool true)) (.slot 44), some 45, none⟩, []⟩]
def r26_17 : List XLine := [⟨⟨.mv (.const (.int .i64 (.ofNat 4))), some 2, none⟩, []⟩]
def r26_18 : List XLine := [⟨⟨.bin .add 3 .num (.slot 29) (.const (.int .i64 (.ofNat 1))), some 46, none⟩, []⟩,
  ⟨⟨.mv (.slot 46), some 29, none⟩, []⟩]
def r26_19 : List XLine := [⟨⟨.bin .add 3 .num (.slot 23) (.const (.int .i64 (.ofNat 1))), some 47, none⟩, []⟩,
  ⟨⟨.mv (.slot 47), some 23, none⟩, []⟩]
def r26_20 : List XLine := [⟨⟨.mv (.const (.int .i64 (.ofNat 0))), some 2, none⟩, []⟩]
def xf26 : XFunc := ⟨(.seq (.region false r26_0)
  (.seq (.block 0 (.seq (.seq (.region false r26_1)
  (.cond (.slot 8)
  .skip
  (.region false r26_2)))
  (.cond (.slot 8)
  (.seq (.region false r26_3)
  .ret)
  (.seq (.region false r26_4)
  (.cond (.slot 15)
  (.seq (.region false r26_5)
  .ret)
  .skip)))))
  (.seq (.region false r26_6)
  (.seq (.seq (.region false r26_7)
  (.block 1 (.loop (.seq (.region false r26_8)
  (.seq (.cond (.slot 24)
  .skip
  (.exit 1))
  (.seq (.block 2 (.seq (.region false r26_9)
  (.seq (.region false r26_10)
  (.block 3 (.loop (.seq (.region false r26_11)
  (.seq (.cond (.slot 30)
  .skip
  (.exit 3))
  (.seq (.block 4 (.seq (.region false r26_12)
  (.seq (.seq (.region false r26_13)
  (.cond (.slot 34)
  (.seq (.region false r26_14)
  .ret)
  .skip))
  (.seq (.region false r26_15)
  (.seq (.region true r26_16)
  (.cond (.slot 45)
  (.seq (.region false r26_17)
  .ret)
  .skip))))))
  (.region false r26_18)))))))))
  (.region false r26_19)))))))
  (.seq (.region false r26_20)
  .ret))))),
  [.tmp 2]⟩
theorem xf26_ok : compFunc Try.prog Try.f26 = some xf26 := by kernel_rfl
/- slices.SortFunc[threshing/api.Clause,threshing/api.Lit] -/
def r27_0 : List XLine := [⟨⟨.mv (.slot 0), some 5, none⟩, []⟩,
  ⟨⟨.len .slice (.slot 5), some 6, none⟩, []⟩,
  ⟨⟨.mv (.slot 6), some 4, none⟩, []⟩]
def r27_1 : List XLine := [⟨⟨.mv (.slot 0), some 7, none⟩, []⟩,
  ⟨⟨.mv (.slot 4), some 8, none⟩, []⟩,
  ⟨⟨.mv (.slot 4), some 9, none⟩, []⟩,
  ⟨⟨.conv .u64 (.slot 9), some 10, none⟩, []⟩,
  ⟨⟨.call (.const (.func 44 [] [])) [(.slot 10)], some 11, none⟩, []⟩,
  ⟨⟨.mv (.slot 1), some 12, none⟩, []⟩,
  ⟨⟨.call (.const (.func 43 [] [])) [(.slot 7), (.const (.int .i64 (.ofNat 0))), (.slot 8), (.slot 11), (.slot 12)], some 13, none⟩, []⟩]
def xf27 : XFunc := ⟨(.seq (.region false r27_0)
  (.region false r27_1)),
  []⟩
theorem xf27_ok : compFunc Try.prog Try.f27 = some xf27 := by kernel_rfl
/- threshing/cnf.order -/
def r28_0 : List XLine := [⟨⟨.mv (.const (.int .i64 (.ofNat 0))), some 4, none⟩, []⟩]
def r28_1 : List XLine := [⟨⟨.mv (.slot 0), some 5, none⟩, []⟩,
  ⟨⟨.call (.const (.func 41 [] [])) [(.slot 5)], some 6, none⟩, []⟩,
  ⟨⟨.mv (.slot 1), some 7, none⟩, []⟩,
  ⟨⟨.call (.const (.func 41 [] [])) [(.slot 7)], some 8, none⟩, []⟩,
  ⟨⟨.call (.const (.func 46 [] [])) [(.slot 6), (.slot 8)], some 9, none⟩, []⟩,
  ⟨⟨.mv (.slot 0), some 10, none⟩, []⟩,
  ⟨⟨.mv (.slot 1), some 11, none⟩, []⟩,
  ⟨⟨.call (.const (.func 47 [] [])) [(.slot 10), (.slot 11)], some 12, none⟩, []⟩,
  ⟨⟨.bslice 1 [(.int .i64 (.ofNat 0)), (.int .i64 (.ofNat 0))] [(0, 1, (.slot 9)), (1, 1, (.slot 12))] 2, some 13, none⟩, []⟩,
  ⟨⟨.call (.const (.func 45 [] [])) [(.slot 13)], some 14, none⟩, []⟩,
  ⟨⟨.mv (.slot 14), some 4, none⟩, []⟩]
def xf28 : XFunc := ⟨(.seq (.region false r28_0)
  (.seq (.region false r28_1)
  .ret)),
  [.tmp 4]⟩
theorem xf28_ok : compFunc Try.prog Try.f28 = some xf28 := by kernel_rfl
/- slices.Compact[threshing/api.Clause,threshing/api.Lit] -/
def r29_0 : List XLine := [⟨⟨.mv (.const .nils), some 2, none⟩, []⟩]
def r29_1 : List XLine := [⟨⟨.mv (.slot 0), some 6, none⟩, []⟩,
  ⟨⟨.len .slice (.slot 6), some 7, none⟩, []⟩,
  ⟨⟨.bin .lss 3 .num (.slot 7) (.const (.int .i64 (.ofNat 2))), some 8, none⟩, []⟩]
def r29_2 : List XLine := [⟨⟨.mv (.slot 0), some 9, none⟩, []⟩,
  ⟨⟨.mv (.slot 9), some 2, none⟩, []⟩]
def r29_3 : List XLine := [⟨⟨.mv (.const (.int .i64 (.ofNat 1))), some 3, none⟩, []⟩]
def r29_4 : List XLine := [⟨⟨.mv (.slot 3), some 10, none⟩, []⟩,
  ⟨⟨.mv (.slot 0), some 11, none⟩, []⟩,
  ⟨⟨.len .slice (.slot 11), some 12, none⟩, []⟩,
  ⟨⟨.bin .lss 3 .num (.slot 10) (.slot 12), some 13, none⟩, []⟩]
def r29_5 : List XLine := [⟨⟨.mv (.slot 0), some 16, none⟩, []⟩,
  ⟨⟨.mv (.slot 3), some 17, none⟩, []⟩,
  ⟨⟨.iaddr 1 (.slot 16) (.slot 17), some 18, none⟩, []⟩,
  ⟨⟨.load false 1 (.slot 18), some 19, none⟩, []⟩,
  ⟨⟨.mv (.slot 0), some 20, none⟩, []⟩,
  ⟨⟨.mv (.slot 3), some 21, none⟩, []⟩,
  ⟨⟨.bin .sub 3 .num (.slot 21) (.const (.int .i64 (.ofNat 1))), some 22, none⟩, []⟩,
  ⟨⟨.iaddr 1 (.slot 20) (.slot 22), some 23, none⟩, []⟩,
  ⟨⟨.load false 1 (.slot 23), some 24, none⟩, []⟩,
  ⟨⟨.bin .eql 24 .num (.slot 19) (.slot 24), some 25, none⟩, []⟩]
def r29_6 : List XLine := [⟨⟨.mv (.slot 0), some 26, none⟩, []⟩,
  ⟨⟨.mv (.slot 3), some 27, none⟩, []⟩,
  ⟨⟨.slc 1 (.slot 26) (some (.slot 27)) none none, some 28, none⟩, []⟩,
  ⟨⟨.mv (.slot 28), some 4, none⟩, []⟩]
def r29_7 : List XLine := [⟨⟨.mv (.const (.int .i64 (.ofNat 1))), some 5, none⟩, []⟩]
def r29_8 : List XLine := [⟨⟨.mv (.slot 5), some 29, none⟩, []⟩,
  ⟨⟨.mv (.slot 4), some 30, none⟩, []⟩,
  ⟨⟨.len .slice (.slot 30), some 31, none⟩, []⟩,
  ⟨⟨.bin .lss 3 .num (.slot 29) (.slot 31), some 32, none⟩, []⟩]
def r29_9 : List XLine := [⟨⟨.mv (.slot 4), some 35, none⟩, []⟩,
  ⟨⟨.mv (.slot 5), some 36, none⟩, []⟩,
  ⟨⟨.iaddr 1 (.slot 35) (.slot 36), some 37, none⟩, []⟩,
  ⟨⟨.load false 1 (.slot 37), some 38, none⟩, []⟩,
  ⟨⟨.mv (.slot 4), some 39, none⟩, []⟩,
  ⟨⟨.mv (.slot 5), some 40, none⟩, []⟩,
  ⟨⟨.bin .sub 3 .num (.slot 40) (.const (.int .i64 (.ofNat 1))), some 41, none⟩, []⟩,
  ⟨⟨.iaddr 1 (.slot 39) (.slot 41), some 42, none⟩, []⟩,
  ⟨⟨.load false 1 (.slot 42), some 43, none⟩, []⟩,
  ⟨⟨.bin .neq 24 .num (.slot 38) (.slot 43), some 44, none⟩, []⟩]
def r29_10 : List XLine := [⟨⟨.mv (.slot 0), some 45, none⟩, []⟩,
  ⟨⟨.mv (.slot 3), some 46, none⟩, []⟩,
  ⟨⟨.mv (.slot 4), some 47, none⟩, []⟩,
  ⟨⟨.mv (.slot 5), some 48, none⟩, []⟩,
  ⟨⟨.iaddr 1 (.slot 47) (.slot 48), some 49, none⟩, []⟩,
  ⟨⟨.load false 1 (.slot 49), some 50, none⟩, []⟩,
  ⟨⟨.iaddr 1 (.slot 45) (.slot 46), some 51, none⟩, []⟩,
  ⟨⟨.store 1 (.slot 51) (.slot 50), none, none⟩, []⟩]
def r29_11 : List XLine := [⟨⟨.mv (.slot 3), some 52, none⟩, []⟩,
  ⟨⟨.bin .add 3 .num (.slot 52) (.const (.int .i64 (.ofNat 1))), some 53, none⟩, []⟩,
  ⟨⟨.mv (.slot 53), some 3, none⟩, []⟩]
def r29_12 : List XLine := [⟨⟨.mv (.slot 5), some 33, none⟩, []⟩,
  ⟨⟨.bin .add 3 .num (.slot 33) (.const (.int .i64 (.ofNat 1))), some 34, none⟩, []⟩,
  ⟨⟨.mv (.slot 34), some 5, none⟩, []⟩]
def r29_13 : List XLine := [⟨⟨.mv (.slot 0), some 54, none⟩, []⟩,
  ⟨⟨.mv (.slot 3), some 55, none⟩, []⟩,
  ⟨⟨.slc 1 (.slot 54) (some (.slot 55)) none none, some 56, none⟩, []⟩,
  ⟨⟨.clear [(.int .i32 (.ofNat 0))] (.slot 56), none, none⟩, []⟩]
def r29_14 : List XLine := [⟨⟨.mv (.slot 0), some 57, none⟩, []⟩,
  ⟨⟨.mv (.slot 3), some 58, none⟩, []⟩,
  ⟨⟨.slc 1 (.slot 57) none (some (.slot 58)) none, some 59, none⟩, []⟩,
  ⟨⟨.mv (.slot 59), some 2, none⟩, []⟩]
def r29_15 : List XLine := [⟨⟨.mv (.slot 3), some 14, none⟩, []⟩,
  ⟨⟨.bin .add 3 .num (.slot 14) (.const (.int .i64 (.ofNat 1))), some 15, none⟩, []⟩,
  ⟨⟨.mv (.slot 15), some 3, none⟩, []⟩]
def r29_16 : List XLine := [⟨⟨.mv (.slot 0), some 60, none⟩, []⟩,
  ⟨⟨.mv (.slot 60), some 2, none⟩, []⟩]
def xf29 : XFunc := ⟨(.seq (.region false r29_0)
  (.seq (.seq (.region false r29_1)
  (.cond (.slot 8)
  (.seq (.region false r29_2)
  .ret)
  .skip))
  (.seq (.seq (.region false r29_3)
  (.block 0 (.loop (.seq (.seq (.region false r29_4)
  (.cond (.slot 13)
  .skip
  (.exit 0)))
  (.seq (.block 1 (.seq (.region true r29_5)
  (.cond (.slot 25)
  (.seq (.region false r29_6)
  (.seq (.seq (.region false r29_7)
  (.block 2 (.loop (.seq (.seq (.region false r29_8)
  (.cond (.slot 32)
  .skip
  (.exit 2)))
  (.seq (.block 3 (.seq (.region true r29_9)
  (.cond (.slot 44)
  (.seq (.region false r29_10)
  (.region false r29_11))
  .skip)))
  (.region false r29_12))))))
  (.seq (.region false r29_13)
  (.seq (.region false r29_14)
  .ret))))
  .skip)))
  (.region false r29_15))))))
  (.seq (.region false r29_16)
  .ret)))),
  [.tmp 2]⟩
theorem xf29_ok : compFunc Try.prog Try.f29 = some xf29 := by kernel_rfl
/- slices.Clip[threshing/api.Clause,threshing/api.Lit] -/
def r30_0 : List XLine := [⟨⟨.mv (.const .nils), some 2, none⟩, []⟩]
def r30_1 : List XLine := [⟨⟨.mv (.slot 0), some 3, none⟩, []⟩,
  ⟨⟨.mv (.slot 0), some 4, none⟩, []⟩,
  ⟨⟨.len .slice (.slot 4), some 5, none⟩, []⟩,
  ⟨⟨.mv (.slot 0), some 6, none⟩, []⟩,
  ⟨⟨.len .slice (.slot 6), some 7, none⟩, []⟩,
  ⟨⟨.slc 1 (.slot 3) none (some (.slot 5)) (some (.slot 7)), some 8, none⟩, []⟩,
  ⟨⟨.mv (.slot 8), some 2, none⟩, []⟩]
def xf30 : XFunc := ⟨(.seq (.region false r30_0)
  (.seq (.region false r30_1)
  .ret)),
  [.tmp 2]⟩
theorem xf30_ok : compFunc Try.prog Try.f30 = some xf30 := by kernel_rfl
/- threshing/blocked.find$1 -/
def r31_0 : List XLine := [⟨⟨.mv (.const (.bool false)), some 5, none⟩, []⟩,
  ⟨⟨.mv (.const (.bool false)), some 6, none⟩, []⟩]
def r31_1 : List XLine := [⟨⟨.load false 1 (.slot 0), some 14, none⟩, []⟩,
  ⟨⟨.faddr 0 (.slot 1), some 15, none⟩, []⟩,
  ⟨⟨.load false 1 (.slot 15), some 16, none⟩, []⟩,
  ⟨⟨.load false 1 (.slot 2), some 17, none⟩, []⟩,
  ⟨⟨.build [.nilp, (.int .i64 (.ofNat 0)), .nils] [(0, 1, (.slot 14)), (1, 1, (.slot 16)), (2, 1, (.slot 17))], some 18, none⟩, []⟩,
  ⟨⟨.alloc [.nilp, (.int .i64 (.ofNat 0)), .nils], some 7, none⟩, []⟩,
  ⟨⟨.store 3 (.slot 7) (.slot 18), none, none⟩, []⟩]
def r31_2 : List XLine := [⟨⟨.mv (.const (.int .i32 (.ofNat 0))), some 8, none⟩, []⟩]
def r31_3 : List XLine := [⟨⟨.mv (.const .nils), some 9, none⟩, []⟩]
def r31_4 : List XLine := [⟨⟨.load false 1 (.slot 2), some 19, none⟩, []⟩,
  ⟨⟨.len .slice (.slot 19), some 20, none⟩, []⟩,
  ⟨⟨.mv (.const (.int .i64 (.ofNat 0))), some 21, none⟩, []⟩]
def r31_5 : List XLine := [⟨⟨.bin .lss 3 .num (.slot 21) (.slot 20), some 22, none⟩, []⟩]
def r31_6 : List XLine := [⟨⟨.iaddr 1 (.slot 19) (.slot 21), some 23, none⟩, []⟩,
  ⟨⟨.load false 1 (.slot 23), some 24, none⟩, []⟩,
  ⟨⟨.mv (.slot 24), some 11, none⟩, []⟩]
def r31_7 : List XLine := [⟨⟨.load true 3 (.slot 7), some 26, none⟩, []⟩,
  ⟨⟨.mv (.slot 11), some 27, none⟩, []⟩,
  ⟨⟨.call (.const (.func 32 [] [])) [(.slot 26), (.slot 27)], some 28, none⟩, []⟩,
  ⟨⟨.mv (.slot 28), some 25, none⟩, []⟩,
  ⟨⟨.extract (.slot 25) 0, some 29, none⟩, []⟩,
  ⟨⟨.extract (.slot 25) 1, some 30, none⟩, []⟩,
  ⟨⟨.mv (.slot 29), some 12, none⟩, []⟩,
  ⟨⟨.mv (.slot 30), some 13, none⟩, []⟩]
def r31_8 : List XLine := [⟨⟨.mv (.slot 13), some 31, none⟩, []⟩]
def r31_9 : List XLine := [⟨⟨.faddr 0 (.slot 3), some 32, none⟩, []⟩,
  ⟨⟨.load false 1 (.slot 32), some 33, none⟩, []⟩,
  ⟨⟨.mv (.slot 11), some 34, none⟩, []⟩,
  ⟨⟨.bslice 1 [(.int .i32 (.ofNat 0))] [(0, 1, (.slot 34))] 1, some 35, none⟩, []⟩,
  ⟨⟨.append 1 4 (.slot 33) (.slot 35), some 36, none⟩, []⟩,
  ⟨⟨.faddr 0 (.slot 3), some 37, none⟩, []⟩,
  ⟨⟨.store 1 (.slot 37) (.slot 36), none, none⟩, []⟩]
def r31_10 : List XLine := [⟨⟨.mv (.const (.bool true)), some 5, none⟩, []⟩,
  ⟨⟨.mv (.const (.bool true)), some 6, none⟩, []⟩]
def r31_11 : List XLine := [⟨⟨.mv (.slot 8), some 38, none⟩, []⟩,
  ⟨⟨.bin .eql 24 .num (.slot 38) (.const (.int .i32 (.ofNat 0))), some 39, none⟩, []⟩,
  ⟨⟨.mv (.slot 39), some 40, none⟩, []⟩,
  ⟨⟨.mv (.slot 12), some 41, some (40, true)⟩, []⟩,
  ⟨⟨.len .slice (.slot 41), some 42, some (40, true)⟩, []⟩,
  ⟨⟨.bin .gtr 3 .num (.slot 42) (.const (.int .i64 (.ofNat 0))), some 43, some (40, true)⟩, []⟩,
  ⟨⟨.pick (.slot 40) (.slot 43) (.const (.bool false)), some 44, none⟩, []⟩]
def r31_12 : List XLine := [⟨⟨.mv (.slot 11), some 45, none⟩, []⟩,
  ⟨⟨.mv (.slot 12), some 46, none⟩, []⟩,
  ⟨⟨.mv (.slot 45), some 8, none⟩, []⟩,
  ⟨⟨.mv (.slot 46), some 9, none⟩, []⟩]
def r31_13 : List XLine := [⟨⟨.bin .add 3 .num (.slot 21) (.const (.int .i64 (.ofNat 1))), some 47, none⟩, []⟩,
  ⟨⟨.mv (.slot 47), some 21, none⟩, []⟩]
def r31_14 : List XLine := [⟨⟨.mv (.slot 8), some 48, none⟩, []⟩,
  ⟨⟨.bin .eql 24 .num (.slot 48) (.const (.int .i32 (.ofNat 0))), some 49, none⟩, []⟩,
  ⟨⟨.mv (.slot 49), some 50, none⟩, []⟩,
  ⟨⟨.faddr 1 (.slot 3), some 51, some (50, false)⟩, []⟩,
  ⟨⟨.load false 1 (.slot 51), some 52, some (50, false)⟩, []⟩,
  ⟨⟨.len .slice (.slot 52), some 53, some (50, false)⟩, []⟩,
  ⟨⟨.bin .eql 3 .num (.slot 53) (.const (.int .i64 (.ofNat 10))), some 54, some (50, false)⟩, []⟩,
  ⟨⟨.pick (.slot 50) (.const (.bool true)) (.slot 54), some 55, none⟩, []⟩]
def r31_15 : List XLine := [⟨⟨.mv (.const (.bool true)), some 5, none⟩, []⟩,
  ⟨⟨.mv (.const (.bool false)), some 6, none⟩, []⟩]
def r31_16 : List XLine := [⟨⟨.load false 1 (.slot 2), some 57, none⟩, []⟩,
  ⟨⟨.mv (.slot 9), some 58, none⟩, []⟩,
  ⟨⟨.bslice 1 [.nils, .nils] [(0, 1, (.slot 57)), (1, 1, (.slot 58))] 2, some 59, none⟩, []⟩,
  ⟨⟨.call (.const (.func 33 [] [])) [(.slot 59)], some 60, none⟩, []⟩,
  ⟨⟨.call (.const (.func 12 [] [])) [(.slot 60)], some 61, none⟩, []⟩,
  ⟨⟨.mv (.slot 61), some 56, none⟩, []⟩,
  ⟨⟨.extract (.slot 56) 0, some 62, none⟩, []⟩,
  ⟨⟨.extract (.slot 56) 1, some 63, none⟩, []⟩,
  ⟨⟨.store 1 (.slot 2) (.slot 62), none, none⟩, []⟩,
  ⟨⟨.store 1 (.slot 4) (.slot 63), none, none⟩, []⟩]
def r31_17 : List XLine := [⟨⟨.faddr 0 (.slot 3), some 64, none⟩, []⟩,
  ⟨⟨.load false 1 (.slot 64), some 65, none⟩, []⟩,
  ⟨⟨.mv (.slot 8), some 66, none⟩, []⟩,
  ⟨⟨.faddr 1 (.slot 3), some 69, none⟩, []⟩,
  ⟨⟨.load false 1 (.slot 69), some 70, none⟩, []⟩,
  ⟨⟨.load false 1 (.slot 2), some 71, none⟩, []⟩,
  ⟨⟨.bslice 1 [(.int .i32 (.ofNat 0))] [(0, 1, (.slot 66))] 1, some 67, none⟩, [⟨.load false 1 (.slot 64), some 65, none⟩, ⟨.load false 1 (.slot 69), some 70, none⟩, ⟨.load false 1 (.slot 2), some 71, none⟩]⟩,
  ⟨⟨.append 1 4 (.slot 65) (.slot 67), some 68, none⟩, [⟨.load false 1 (.slot 69), some 70, none⟩, ⟨.load false 1 (.slot 2), some 71, none⟩]⟩,
  ⟨⟨.faddr 0 (.slot 3), some 74, none⟩, []⟩,
  ⟨⟨.bslice 1 [.nils] [(0, 1, (.slot 71))] 1, some 72, none⟩, [⟨.load false 1 (.slot 64), some 65, none⟩, ⟨.load false 1 (.slot 69), some 70, none⟩]⟩,
  ⟨⟨.append 1 24 (.slot 70) (.slot 72), some 73, none⟩, []⟩,
  ⟨⟨.store 1 (.slot 74) (.slot 68), none, none⟩, []⟩,
  ⟨⟨.faddr 1 (.slot 3), some 75, none⟩, []⟩,
  ⟨⟨.store 1 (.slot 75) (.slot 73), none, none⟩, []⟩]
def r31_18 : List XLine := [⟨⟨.load false 1 (.slot 4), some 76, none⟩, []⟩,
  ⟨⟨.faddr 2 (.slot 3), some 77, none⟩, []⟩,
  ⟨⟨.store 1 (.slot 77) (.slot 76), none, none⟩, []⟩]
def r31_19 : List XLine := [⟨⟨.load false 1 (.slot 4), some 78, none⟩, []⟩,
  ⟨⟨.load false 1 (.slot 4), some 79, none⟩, []⟩,
  ⟨⟨.mv (.slot 78), some 5, none⟩, []⟩,
  ⟨⟨.mv (.slot 79), some 6, none⟩, []⟩]
def xf31 : XFunc := ⟨(.seq (.region false r31_0)
  (.seq (.region false r31_1)
  (.seq (.region false r31_2)
  (.seq (.region false r31_3)
  (.seq (.seq (.region false r31_4)
  (.block 0 (.loop (.seq (.region false r31_5)
  (.seq (.cond (.slot 22)
  .skip
  (.exit 0))
  (.seq (.block 1 (.seq (.region false r31_6)
  (.seq (.region false r31_7)
  (.seq (.seq (.region false r31_8)
  (.cond (.slot 31)
  (.seq (.region false r31_9)
  (.seq (.region false r31_10)
  .ret))
  .skip))
  (.seq (.region false r31_11)
  (.cond (.slot 44)
  (.region false r31_12)
  .skip))))))
  (.region false r31_13)))))))
  (.seq (.seq (.region false r31_14)
  (.cond (.slot 55)
  (.seq (.region false r31_15)
  .ret)
  .skip))
  (.seq (.region false r31_16)
  (.seq (.region true r31_17)
  (.seq (.region false r31_18)
  (.seq (.region true r31_19)
  .ret)))))))))),
  [.tmp 5, .tmp 6]⟩
theorem xf31_ok : compFunc Try.prog Try.f31 = some xf31 := by kernel_rfl
/- (threshing/blocked.form).covers -/
def r32_0 : List XLine := [⟨⟨.box (.slot 0), some 2, none⟩, []⟩,
  ⟨⟨.mv (.const .nils), some 4, none⟩, []⟩,
  ⟨⟨.mv (.const (.bool false)), some 5, none⟩, []⟩]
def r32_1 : List XLine := [⟨⟨.load true 3 (.slot 2), some 17, none⟩, []⟩,
  ⟨⟨.mkfunc 48 [(.slot 17)] [], some 18, none⟩, []⟩,
  ⟨⟨.mv (.slot 18), some 6, none⟩, []⟩]
def r32_2 : List XLine := [⟨⟨.mv (.const .nilm), some 7, none⟩, []⟩]
def r32_3 : List XLine := [⟨⟨.faddr 0 (.slot 2), some 19, none⟩, []⟩,
  ⟨⟨.load false 1 (.slot 19), some 20, none⟩, []⟩,
  ⟨⟨.mv (.slot 1), some 21, none⟩, []⟩,
  ⟨⟨.un .neg (.slot 21), some 22, none⟩, []⟩,
  ⟨⟨.call (.const (.func 49 [] [])) [(.slot 20), (.slot 22)], some 23, none⟩, []⟩,
  ⟨⟨.len .slice (.slot 23), some 24, none⟩, []⟩,
  ⟨⟨.mv (.const (.int .i64 (.ofNat 0))), some 25, none⟩, []⟩]
def r32_4 : List XLine := [⟨⟨.bin .lss 3 .num (.slot 25) (.slot 24), some 26, none⟩, []⟩]
def r32_5 : List XLine := [⟨⟨.iaddr 1 (.slot 23) (.slot 25), some 27, none⟩, []⟩,
  ⟨⟨.load false 1 (.slot 27), some 28, none⟩, []⟩,
  ⟨⟨.mv (.slot 28), some 9, none⟩, []⟩]
def r32_6 : List XLine := [⟨⟨.faddr 0 (.slot 2), some 30, none⟩, []⟩,
  ⟨⟨.load false 1 (.slot 30), some 31, none⟩, []⟩,
  ⟨⟨.mv (.slot 9), some 32, none⟩, []⟩,
  ⟨⟨.call (.const (.func 50 [] [])) [(.slot 31), (.slot 32)], some 33, none⟩, []⟩,
  ⟨⟨.mv (.slot 33), some 29, none⟩, []⟩,
  ⟨⟨.extract (.slot 29) 0, some 34, none⟩, []⟩,
  ⟨⟨.extract (.slot 29) 1, some 35, none⟩, []⟩,
  ⟨⟨.alloc [(.int .i64 (.ofNat 0)), .nils, (.bool false)], some 10, none⟩, []⟩,
  ⟨⟨.store 3 (.slot 10) (.slot 34), none, none⟩, []⟩,
  ⟨⟨.mv (.slot 35), some 11, none⟩, []⟩]
def r32_7 : List XLine := [⟨⟨.faddr 2 (.slot 10), some 36, none⟩, []⟩,
  ⟨⟨.load false 1 (.slot 36), some 37, none⟩, []⟩,
  ⟨⟨.mv (.slot 37), some 38, none⟩, []⟩,
  ⟨⟨.mv (.slot 9), some 39, some (38, false)⟩, []⟩,
  ⟨⟨.faddr 1 (.slot 2), some 40, some (38, false)⟩, []⟩,
  ⟨⟨.load false 1 (.slot 40), some 41, some (38, false)⟩, []⟩,
  ⟨⟨.bin .eql 2 .num (.slot 39) (.slot 41), some 42, some (38, false)⟩, []⟩,
  ⟨⟨.pick (.slot 38) (.const (.bool true)) (.slot 42), some 43, none⟩, []⟩,
  ⟨⟨.mv (.slot 43), some 44, none⟩, []⟩,
  ⟨⟨.mv (.slot 6), some 45, some (44, false)⟩, []⟩,
  ⟨⟨.faddr 1 (.slot 10), some 46, some (44, false)⟩, []⟩,
  ⟨⟨.load false 1 (.slot 46), some 47, some (44, false)⟩, []⟩,
  ⟨⟨.mv (.slot 1), some 48, some (44, false)⟩, []⟩,
  ⟨⟨.call (.slot 45) [(.slot 47), (.slot 48)], some 49, some (44, false)⟩, []⟩,
  ⟨⟨.pick (.slot 44) (.const (.bool true)) (.slot 49), some 50, none⟩, []⟩]
def r32_8 : List XLine := [⟨⟨.mv (.slot 7), some 51, none⟩, []⟩,
  ⟨⟨.bin .eql 94 .map (.slot 51) (.const .nilm), some 52, none⟩, []⟩]
def r32_9 : List XLine := [⟨⟨.mkmap .i32, some 53, none⟩, []⟩,
  ⟨⟨.mv (.slot 53), some 7, none⟩, []⟩]
def r32_10 : List XLine := [⟨⟨.faddr 1 (.slot 10), some 54, none⟩, []⟩,
  ⟨⟨.load false 1 (.slot 54), some 55, none⟩, []⟩,
  ⟨⟨.len .slice (.slot 55), some 56, none⟩, []⟩,
  ⟨⟨.mv (.const (.int .i64 (.ofNat 0))), some 57, none⟩, []⟩]
def r32_11 : List XLine := [⟨⟨.bin .lss 3 .num (.slot 57) (.slot 56), some 58, none⟩, []⟩]
def r32_12 : List XLine := [⟨⟨.iaddr 1 (.slot 55) (.slot 57), some 59, none⟩, []⟩,
  ⟨⟨.load false 1 (.slot 59), some 60, none⟩, []⟩,
  ⟨⟨.mv (.slot 60), some 13, none⟩, []⟩]
def r32_13 : List XLine := [⟨⟨.mv (.slot 13), some 61, none⟩, []⟩,
  ⟨⟨.mv (.slot 1), some 62, none⟩, []⟩,
  ⟨⟨.un .neg (.slot 62), some 63, none⟩, []⟩,
  ⟨⟨.bin .neq 24 .num (.slot 61) (.slot 63), some 64, none⟩, []⟩,
  ⟨⟨.mv (.slot 64), some 65, none⟩, []⟩,
  ⟨⟨.faddr 2 (.slot 2), some 66, some (65, true)⟩, []⟩,
  ⟨⟨.load false 1 (.slot 66), some 67, some (65, true)⟩, []⟩,
  ⟨⟨.mv (.slot 13), some 68, some (65, true)⟩, []⟩,
  ⟨⟨.call (.const (.func 51 [] [])) [(.slot 67), (.slot 68)], some 69, some (65, true)⟩, []⟩,
  ⟨⟨.un .not (.slot 69), some 70, some (65, true)⟩, []⟩,
  ⟨⟨.pick (.slot 65) (.slot 70) (.const (.bool false)), some 71, none⟩, []⟩]
def r32_14 : List XLine := [⟨⟨.mv (.slot 7), some 72, none⟩, []⟩,
  ⟨⟨.mv (.slot 13), some 73, none⟩, []⟩,
  ⟨⟨.mapup .i32 (.slot 72) (.slot 73) (.const (.bool true)), none, none⟩, []⟩]
def r32_15 : List XLine := [⟨⟨.bin .add 3 .num (.slot 57) (.const (.int .i64 (.ofNat 1))), some 74, none⟩, []⟩,
  ⟨⟨.mv (.slot 74), some 57, none⟩, []⟩]
def r32_16 : List XLine := [⟨⟨.mv (.slot 7), some 75, none⟩, []⟩,
  ⟨⟨.range .i32 (.slot 75), some 76, none⟩, []⟩]
def r32_17 : List XLine := [⟨⟨.next (.slot 76), some 77, none⟩, []⟩,
  ⟨⟨.extract (.slot 77) 0, some 78, none⟩, []⟩]
def r32_18 : List XLine := [⟨⟨.entry (.slot 76), some 79, none⟩, []⟩,
  ⟨⟨.extract (.slot 79) 0, some 80, none⟩, []⟩,
  ⟨⟨.mv (.slot 80), some 14, none⟩, []⟩]
def r32_19 : List XLine := [⟨⟨.faddr 1 (.slot 10), some 81, none⟩, []⟩,
  ⟨⟨.load false 1 (.slot 81), some 82, none⟩, []⟩,
  ⟨⟨.mv (.slot 14), some 83, none⟩, []⟩,
  ⟨⟨.call (.const (.func 51 [] [])) [(.slot 82), (.slot 83)], some 84, none⟩, []⟩,
  ⟨⟨.un .not (.slot 84), some 85, none⟩, []⟩]
def r32_20 : List XLine := [⟨⟨.mv (.slot 7), some 86, none⟩, []⟩,
  ⟨⟨.mv (.slot 14), some 87, none⟩, []⟩,
  ⟨⟨.delete .i32 (.slot 86) (.slot 87), none, none⟩, []⟩]
def r32_21 : List XLine := [⟨⟨.bin .add 3 .num (.slot 25) (.const (.int .i64 (.ofNat 1))), some 88, none⟩, []⟩,
  ⟨⟨.mv (.slot 88), some 25, none⟩, []⟩]
def r32_22 : List XLine := [⟨⟨.mv (.const .nils), some 15, none⟩, []⟩]
def r32_23 : List XLine := [⟨⟨.mv (.slot 7), some 89, none⟩, []⟩,
  ⟨⟨.range .i32 (.slot 89), some 90, none⟩, []⟩]
def r32_24 : List XLine := [⟨⟨.next (.slot 90), some 91, none⟩, []⟩,
  ⟨⟨.extract (.slot 91) 0, some 92, none⟩, []⟩]
def r32_25 : List XLine := [⟨⟨.entry (.slot 90), some 93, none⟩, []⟩,
  ⟨⟨.extract (.slot 93) 0, some 94, none⟩, []⟩,
  ⟨⟨.mv (.slot 94), some 16, none⟩, []⟩]
def r32_26 : List XLine := [⟨⟨.mv (.slot 15), some 95, none⟩, []⟩,
  ⟨⟨.mv (.slot 16), some 96, none⟩, []⟩,
  ⟨⟨.bslice 1 [(.int .i32 (.ofNat 0))] [(0, 1, (.slot 96))] 1, some 97, none⟩, []⟩,
  ⟨⟨.append 1 4 (.slot 95) (.slot 97), some 98, none⟩, []⟩,
  ⟨⟨.mv (.slot 98), some 15, none⟩, []⟩]
def r32_27 : List XLine := [⟨⟨.mv (.slot 15), some 100, none⟩, []⟩,
  ⟨⟨.call (.const (.func 12 [] [])) [(.slot 100)], some 101, none⟩, []⟩,
  ⟨⟨.mv (.slot 101), some 99, none⟩, []⟩,
  ⟨⟨.extract (.slot 99) 0, some 102, none⟩, []⟩,
  ⟨⟨.extract (.slot 99) 1, some 103, none⟩, []⟩,
  ⟨⟨.mv (.slot 102), some 15, none⟩, []⟩]
def r32_28 : List XLine := [⟨⟨.mv (.slot 15), some 104, none⟩, []⟩,
  ⟨⟨.mv (.slot 7), some 105, none⟩, []⟩,
  ⟨⟨.bin .eql 94 .map (.slot 105) (.const .nilm), some 106, none⟩, []⟩,
  ⟨⟨.mv (.slot 104), some 4, none⟩, []⟩,
  ⟨⟨.mv (.slot 106), some 5, none⟩, []⟩]
def xf32 : XFunc := ⟨(.seq (.region false r32_0)
  (.seq (.region false r32_1)
  (.seq (.region false r32_2)
  (.seq (.seq (.region false r32_3)
  (.block 0 (.loop (.seq (.region false r32_4)
  (.seq (.cond (.slot 26)
  .skip
  (.exit 0))
  (.seq (.block 1 (.seq (.region false r32_5)
  (.seq (.region false r32_6)
  (.seq (.seq (.region false r32_7)
  (.cond (.slot 50)
  (.exit 1)
  .skip))
  (.seq (.seq (.region false r32_8)
  (.cond (.slot 52)
  (.seq (.region false r32_9)
  (.seq (.seq (.region false r32_10)
  (.block 2 (.loop (.seq (.region false r32_11)
  (.seq (.cond (.slot 58)
  .skip
  (.exit 2))
  (.seq (.block 3 (.seq (.region false r32_12)
  (.seq (.region false r32_13)
  (.cond (.slot 71)
  (.region false r32_14)
  .skip))))
  (.region false r32_15)))))))
  (.exit 1)))
  .skip))
  (.seq (.region false r32_16)
  (.block 4 (.loop (.seq (.region false r32_17)
  (.seq (.cond (.slot 78)
  .skip
  (.exit 4))
  (.block 5 (.seq (.region false r32_18)
  (.seq (.region false r32_19)
  (.cond (.slot 85)
  (.region false r32_20)
  .skip))))))))))))))
  (.region false r32_21)))))))
  (.seq (.region false r32_22)
  (.seq (.seq (.region false r32_23)
  (.block 6 (.loop (.seq (.region false r32_24)
  (.seq (.cond (.slot 92)
  .skip
  (.exit 6))
  (.block 7 (.seq (.region false r32_25)
  (.region false r32_26))))))))
  (.seq (.region false r32_27)
  (.seq (.region false r32_28)
  .ret)))))))),
  [.tmp 4, .tmp 5]⟩
theorem xf32_ok : compFunc Try.prog Try.f32 = some xf32 := by kernel_rfl
/- slices.Concat[threshing/api.Clause,threshing/api.Lit] -/
def r33_0 : List XLine := [⟨⟨.mv (.const .nils), some 2, none⟩, []⟩]
def r33_1 : List XLine := [⟨⟨.mv (.const (.int .i64 (.ofNat 0))), some 3, none⟩, []⟩]
def r33_2 : List XLine := [⟨⟨.mv (.slot 0), some 9, none⟩, []⟩,
  ⟨⟨.len .slice (.slot 9), some 10, none⟩, []⟩,
  ⟨⟨.mv (.const (.int .i64 (.ofNat 0))), some 11, none⟩, []⟩]
def r33_3 : List XLine := [⟨⟨.bin .lss 3 .num (.slot 11) (.slot 10), some 12, none⟩, []⟩]
def r33_4 : List XLine := [⟨⟨.iaddr 1 (.slot 9) (.slot 11), some 13, none⟩, []⟩,
  ⟨⟨.load false 1 (.slot 13), some 14, none⟩, []⟩,
  ⟨⟨.mv (.slot 14), some 5, none⟩, []⟩]
def r33_5 : List XLine := [⟨⟨.mv (.slot 3), some 15, none⟩, []⟩,
  ⟨⟨.mv (.slot 5), some 16, none⟩, []⟩,
  ⟨⟨.len .slice (.slot 16), some 17, none⟩, []⟩,
  ⟨⟨.bin .add 3 .num (.slot 15) (.slot 17), some 18, none⟩, []⟩,
  ⟨⟨.mv (.slot 18), some 3, none⟩, []⟩]
def r33_6 : List XLine := [⟨⟨.mv (.slot 3), some 19, none⟩, []⟩,
  ⟨⟨.bin .lss 3 .num (.slot 19) (.const (.int .i64 (.ofNat 0))), some 20, none⟩, []⟩]
def r33_7 : List XLine := [⟨⟨.mkif 9 (.const (.str ⟨⟨[108, 101, 110, 32, 111, 117, 116, 32, 111, 102, 32, 114, 97, 110, 103, 101]⟩⟩)), some 21, none⟩, []⟩,
  ⟨⟨.bad, none, none⟩, []⟩]
def r33_8 : List XLine := [⟨⟨.bin .add 3 .num (.slot 11) (.const (.int .i64 (.ofNat 1))), some 22, none⟩, []⟩,
  ⟨⟨.mv (.slot 22), some 11, none⟩, []⟩]
def r33_9 : List XLine := [⟨⟨.mv (.slot 3), some 23, none⟩, []⟩,
  ⟨⟨.call (.const (.func 52 [] [])) [(.const .nils), (.slot 23)], some 24, none⟩, []⟩,
  ⟨⟨.mv (.slot 24), some 6, none⟩, []⟩]
def r33_10 : List XLine := [⟨⟨.mv (.slot 0), some 25, none⟩, []⟩,
  ⟨⟨.len .slice (.slot 25), some 26, none⟩, []⟩,
  ⟨⟨.mv (.const (.int .i64 (.ofNat 0))), some 27, none⟩, []⟩]
def r33_11 : List XLine := [⟨⟨.bin .lss 3 .num (.slot 27) (.slot 26), some 28, none⟩, []⟩]
def r33_12 : List XLine := [⟨⟨.iaddr 1 (.slot 25) (.slot 27), some 29, none⟩, []⟩,
  ⟨⟨.load false 1 (.slot 29), some 30, none⟩, []⟩,
  ⟨⟨.mv (.slot 30), some 8, none⟩, []⟩]
def r33_13 : List XLine := [⟨⟨.mv (.slot 6), some 31, none⟩, []⟩,
  ⟨⟨.mv (.slot 8), some 32, none⟩, []⟩,
  ⟨⟨.append 1 4 (.slot 31) (.slot 32), some 33, none⟩, []⟩,
  ⟨⟨.mv (.slot 33), some 6, none⟩, []⟩]
def r33_14 : List XLine := [⟨⟨.bin .add 3 .num (.slot 27) (.const (.int .i64 (.ofNat 1))), some 34, none⟩, []⟩,
  ⟨⟨.mv (.slot 34), some 27, none⟩, []⟩]
def r33_15 : List XLine := [⟨⟨.mv (.slot 6), some 35, none⟩, []⟩,
  ⟨⟨.mv (.slot 35), some 2, none⟩, []⟩]
def xf33 : XFunc := ⟨(.seq (.region false r33_0)
  (.seq (.region false r33_1)
  (.seq (.seq (.region false r33_2)
  (.block 0 (.loop (.seq (.region false r33_3)
  (.seq (.cond (.slot 12)
  .skip
  (.exit 0))
  (.seq (.block 1 (.seq (.region false r33_4)
  (.seq (.region false r33_5)
  (.seq (.region false r33_6)
  (.cond (.slot 20)
  (.region false r33_7)
  .skip)))))
  (.region false r33_8)))))))
  (.seq (.region false r33_9)
  (.seq (.seq (.region false r33_10)
  (.block 2 (.loop (.seq (.region false r33_11)
  (.seq (.cond (.slot 28)
  .skip
  (.exit 2))
  (.seq (.block 3 (.seq (.region false r33_12)
  (.region false r33_13)))
  (.region false r33_14)))))))
  (.seq (.region false r33_15)
  .ret)))))),
  [.tmp 2]⟩
theorem xf33_ok : compFunc Try.prog Try.f33 = some xf33 := by kernel_rfl
/- (*threshing/base.Base).Weaken -/
def r34_0 : List XLine := [⟨⟨.mv (.const (.int .i64 (.ofNat 0))), some 6, none⟩, []⟩]
def r34_1 : List XLine := [⟨⟨.mv (.slot 0), some 10, none⟩, []⟩,
  ⟨⟨.bin .eql 22 .ptr (.slot 10) (.const .nilp), some 11, none⟩, []⟩]
def r34_2 : List XLine := [⟨⟨.mv (.const (.int .i64 (.ofNat 1))), some 6, none⟩, []⟩]
def r34_3 : List XLine := [⟨⟨.mv (.slot 0), some 13, none⟩, []⟩,
  ⟨⟨.nilCheck (.slot 13), some 14, none⟩, []⟩,
  ⟨⟨.faddr 1 (.slot 14), some 15, none⟩, []⟩,
  ⟨⟨.load false 1 (.slot 15), some 16, none⟩, []⟩,
  ⟨⟨.mv (.slot 1), some 17, none⟩, []⟩,
  ⟨⟨.lookup .i64 (.agg [(.int .i64 (.ofNat 0)), .nils, (.bool false)]) (.slot 16) (.slot 17) true, some 18, none⟩, []⟩,
  ⟨⟨.mv (.slot 18), some 12, none⟩, []⟩,
  ⟨⟨.extract (.slot 12) 0, some 19, none⟩, []⟩,
  ⟨⟨.extract (.slot 12) 1, some 20, none⟩, []⟩,
  ⟨⟨.alloc [(.int .i64 (.ofNat 0)), .nils, (.bool false)], some 7, none⟩, []⟩,
  ⟨⟨.store 3 (.slot 7) (.slot 19), none, none⟩, []⟩,
  ⟨⟨.mv (.slot 20), some 8, none⟩, []⟩]
def r34_4 : List XLine := [⟨⟨.mv (.slot 8), some 22, none⟩, []⟩,
  ⟨⟨.un .not (.slot 22), some 23, none⟩, []⟩,
  ⟨⟨.mv (.slot 23), some 21, none⟩, []⟩]
def r34_5 : List XLine := [⟨⟨.mv (.const (.int .i64 (.ofNat 5))), some 6, none⟩, []⟩]
def r34_6 : List XLine := [⟨⟨.faddr 2 (.slot 7), some 25, none⟩, []⟩,
  ⟨⟨.load false 1 (.slot 25), some 26, none⟩, []⟩,
  ⟨⟨.mv (.slot 26), some 24, none⟩, []⟩]
def r34_7 : List XLine := [⟨⟨.mv (.const (.int .i64 (.ofNat 7))), some 6, none⟩, []⟩]
def r34_8 : List XLine := [⟨⟨.mv (.slot 0), some 28, none⟩, []⟩,
  ⟨⟨.mv (.slot 2), some 29, none⟩, []⟩,
  ⟨⟨.call (.const (.func 21 [] [])) [(.slot 28), (.slot 29)], some 30, none⟩, []⟩,
  ⟨⟨.un .not (.slot 30), some 31, none⟩, []⟩,
  ⟨⟨.mv (.slot 31), some 27, none⟩, []⟩]
def r34_9 : List XLine := [⟨⟨.mv (.const (.int .i64 (.ofNat 4))), some 6, none⟩, []⟩]
def r34_10 : List XLine := [⟨⟨.mv (.slot 2), some 33, none⟩, []⟩,
  ⟨⟨.len .slice (.slot 33), some 34, none⟩, []⟩,
  ⟨⟨.bin .eql 3 .num (.slot 34) (.const (.int .i64 (.ofNat 0))), some 35, none⟩, []⟩,
  ⟨⟨.mv (.slot 35), some 32, none⟩, []⟩]
def r34_11 : List XLine := [⟨⟨.mv (.slot 2), some 36, none⟩, []⟩,
  ⟨⟨.call (.const (.func 53 [] [])) [(.slot 36)], some 37, none⟩, []⟩,
  ⟨⟨.mv (.slot 37), some 32, none⟩, []⟩]
def r34_12 : List XLine := [⟨⟨.faddr 1 (.slot 7), some 38, none⟩, []⟩,
  ⟨⟨.load false 1 (.slot 38), some 39, none⟩, []⟩,
  ⟨⟨.mv (.slot 2), some 40, none⟩, []⟩,
  ⟨⟨.iaddr 1 (.slot 40) (.const (.int .i64 (.ofNat 0))), some 41, none⟩, []⟩,
  ⟨⟨.load false 1 (.slot 41), some 42, none⟩, []⟩,
  ⟨⟨.call (.const (.func 51 [] [])) [(.slot 39), (.slot 42)], some 43, none⟩, []⟩,
  ⟨⟨.un .not (.slot 43), some 44, none⟩, []⟩,
  ⟨⟨.mv (.slot 44), some 32, none⟩, []⟩]
def r34_13 : List XLine := [⟨⟨.mv (.const (.int .i64 (.ofNat 2))), some 6, none⟩, []⟩]
def r34_14 : List XLine := [⟨⟨.mv (.slot 0), some 45, none⟩, []⟩,
  ⟨⟨.load true 3 (.slot 7), some 46, none⟩, []⟩,
  ⟨⟨.call (.const (.func 54 [] [])) [(.slot 45), (.slot 46)], some 47, none⟩, []⟩,
  ⟨⟨.mv (.slot 47), some 9, none⟩, []⟩]
def r34_15 : List XLine := [⟨⟨.mv (.slot 9), some 48, none⟩, []⟩,
  ⟨⟨.bin .neq 27 .num (.slot 48) (.const (.int .i64 (.ofNat 0))), some 49, none⟩, []⟩]
def r34_16 : List XLine := [⟨⟨.mv (.slot 9), some 50, none⟩, []⟩,
  ⟨⟨.mv (.slot 50), some 6, none⟩, []⟩]
def r34_17 : List XLine := [⟨⟨.mv (.slot 0), some 51, none⟩, []⟩,
  ⟨⟨.mv (.slot 0), some 52, none⟩, []⟩,
  ⟨⟨.nilCheck (.slot 52), some 53, none⟩, []⟩,
  ⟨⟨.faddr 6 (.slot 53), some 54, none⟩, []⟩,
  ⟨⟨.load false 1 (.slot 54), some 55, none⟩, []⟩,
  ⟨⟨.mv (.slot 2), some 56, none⟩, []⟩,
  ⟨⟨.faddr 1 (.slot 7), some 58, none⟩, []⟩,
  ⟨⟨.load false 1 (.slot 58), some 59, none⟩, []⟩,
  ⟨⟨.call (.const (.func 16 [] [])) [(.slot 56)], some 57, none⟩, [⟨.load false 1 (.slot 54), some 55, none⟩, ⟨.load false 1 (.slot 58), some 59, none⟩]⟩,
  ⟨⟨.call (.const (.func 16 [] [])) [(.slot 59)], some 60, none⟩, [⟨.load false 1 (.slot 54), some 55, none⟩]⟩,
  ⟨⟨.build [.nils, .nils] [(0, 1, (.slot 57)), (1, 1, (.slot 60))], some 61, none⟩, []⟩,
  ⟨⟨.bslice 2 [.nils, .nils] [(0, 2, (.slot 61))] 1, some 62, none⟩, [⟨.load false 1 (.slot 54), some 55, none⟩]⟩,
  ⟨⟨.append 2 48 (.slot 55) (.slot 62), some 63, none⟩, []⟩,
  ⟨⟨.nilCheck (.slot 51), some 64, none⟩, []⟩,
  ⟨⟨.faddr 6 (.slot 64), some 65, none⟩, []⟩,
  ⟨⟨.store 1 (.slot 65) (.slot 63), none, none⟩, []⟩]
def r34_18 : List XLine := [⟨⟨.mv (.slot 0), some 66, none⟩, []⟩,
  ⟨⟨.mv (.slot 1), some 67, none⟩, []⟩,
  ⟨⟨.mv (.slot 2), some 68, none⟩, []⟩,
  ⟨⟨.call (.const (.func 16 [] [])) [(.slot 68)], some 69, none⟩, []⟩,
  ⟨⟨.build [(.int .u8 (.ofNat 0)), (.int .i64 (.ofNat 0)), (.int .i64 (.ofNat 0)), (.bool false), .nils, .nils] [(0, 1, (.const (.int .u8 (.ofNat 5)))), (1, 1, (.slot 67)), (4, 1, (.slot 69))], some 70, none⟩, []⟩,
  ⟨⟨.call (.const (.func 25 [] [])) [(.slot 66), (.slot 70)], some 71, none⟩, []⟩,
  ⟨⟨.mv (.slot 71), some 6, none⟩, []⟩]
def xf34 : XFunc := ⟨(.seq (.region false r34_0)
  (.seq (.seq (.region false r34_1)
  (.cond (.slot 11)
  (.seq (.region false r34_2)
  .ret)
  .skip))
  (.seq (.region false r34_3)
  (.seq (.block 0 (.seq (.region false r34_4)
  (.cond (.slot 21)
  (.seq (.region false r34_5)
  .ret)
  (.seq (.region false r34_6)
  (.cond (.slot 24)
  (.seq (.region false r34_7)
  .ret)
  (.seq (.region false r34_8)
  (.cond (.slot 27)
  (.seq (.region false r34_9)
  .ret)
  (.seq (.seq (.region false r34_10)
  (.cond (.slot 32)
  .skip
  (.seq (.region false r34_11)
  (.cond (.slot 32)
  .skip
  (.region true r34_12)))))
  (.cond (.slot 32)
  (.seq (.region false r34_13)
  .ret)
  .skip)))))))))
  (.seq (.seq (.region false r34_14)
  (.seq (.region false r34_15)
  (.cond (.slot 49)
  (.seq (.region false r34_16)
  .ret)
  .skip)))
  (.seq (.region true r34_17)
  (.seq (.region false r34_18)
  .ret))))))),
  [.tmp 6]⟩
theorem xf34_ok : compFunc Try.prog Try.f34 = some xf34 := by kernel_rfl
/- (*threshing/base.Base).Drop -/
def r35_0 : List XLine := [⟨⟨.mv (.const (.int .i64 (.ofNat 0))), some 6, none⟩, []⟩]
def r35_1 : List XLine := [⟨⟨.mv (.slot 0), some 12, none⟩, []⟩,
  ⟨⟨.bin .eql 22 .ptr (.slot 12) (.const .nilp), some 13, none⟩, []⟩]
def r35_2 : List XLine := [⟨⟨.mv (.const (.int .i64 (.ofNat 1))), some 6, none⟩, []⟩]
def r35_3 : List XLine := [⟨⟨.mv (.slot 0), some 15, none⟩, []⟩,
  ⟨⟨.nilCheck (.slot 15), some 16, none⟩, []⟩,
  ⟨⟨.faddr 1 (.slot 16), some 17, none⟩, []⟩,
  ⟨⟨.load false 1 (.slot 17), some 18, none⟩, []⟩,
  ⟨⟨.mv (.slot 1), some 19, none⟩, []⟩,
  ⟨⟨.lookup .i64 (.agg [(.int .i64 (.ofNat 0)), .nils, (.bool false)]) (.slot 18) (.slot 19) true, some 20, none⟩, []⟩,
  ⟨⟨.mv (.slot 20), some 14, none⟩, []⟩,
  ⟨⟨.extract (.slot 14) 0, some 21, none⟩, []⟩,
  ⟨⟨.extract (.slot 14) 1, some 22, none⟩, []⟩,
  ⟨⟨.alloc [(.int .i64 (.ofNat 0)), .nils, (.bool false)], some 7, none⟩, []⟩,
  ⟨⟨.store 3 (.slot 7) (.slot 21), none, none⟩, []⟩,
  ⟨⟨.mv (.slot 22), some 8, none⟩, []⟩]
def r35_4 : List XLine := [⟨⟨.mv (.slot 0), some 24, none⟩, []⟩,
  ⟨⟨.nilCheck (.slot 24), some 25, none⟩, []⟩,
  ⟨⟨.faddr 1 (.slot 25), some 26, none⟩, []⟩,
  ⟨⟨.load false 1 (.slot 26), some 27, none⟩, []⟩,
  ⟨⟨.mv (.slot 2), some 28, none⟩, []⟩,
  ⟨⟨.lookup .i64 (.agg [(.int .i64 (.ofNat 0)), .nils, (.bool false)]) (.slot 27) (.slot 28) true, some 29, none⟩, []⟩,
  ⟨⟨.mv (.slot 29), some 23, none⟩, []⟩,
  ⟨⟨.extract (.slot 23) 0, some 30, none⟩, []⟩,
  ⟨⟨.extract (.slot 23) 1, some 31, none⟩, []⟩,
  ⟨⟨.alloc [(.int .i64 (.ofNat 0)), .nils, (.bool false)], some 9, none⟩, []⟩,
  ⟨⟨.store 3 (.slot 9) (.slot 30), none, none⟩, []⟩,
  ⟨⟨.mv (.slot 31), some 10, none⟩, []⟩]
def r35_5 : List XLine := [⟨⟨.mv (.slot 8), some 33, none⟩, []⟩,
  ⟨⟨.un .not (.slot 33), some 34, none⟩, []⟩,
  ⟨⟨.mv (.slot 34), some 32, none⟩, []⟩]
def r35_6 : List XLine := [⟨⟨.mv (.slot 2), some 35, none⟩, []⟩,
  ⟨⟨.bin .neq 2 .num (.slot 35) (.const (.int .i64 (.ofNat 0))), some 36, none⟩, []⟩,
  ⟨⟨.mv (.slot 36), some 37, none⟩, []⟩,
  ⟨⟨.mv (.slot 10), some 38, some (37, true)⟩, []⟩,
  ⟨⟨.un .not (.slot 38), some 39, some (37, true)⟩, []⟩,
  ⟨⟨.pick (.slot 37) (.slot 39) (.const (.bool false)), some 40, none⟩, []⟩,
  ⟨⟨.mv (.slot 40), some 32, none⟩, []⟩]
def r35_7 : List XLine := [⟨⟨.mv (.const (.int .i64 (.ofNat 5))), some 6, none⟩, []⟩]
def r35_8 : List XLine := [⟨⟨.mv (.slot 2), some 42, none⟩, []⟩,
  ⟨⟨.mv (.slot 1), some 43, none⟩, []⟩,
  ⟨⟨.bin .eql 2 .num (.slot 42) (.slot 43), some 44, none⟩, []⟩,
  ⟨⟨.mv (.slot 44), some 41, none⟩, []⟩]
def r35_9 : List XLine := [⟨⟨.mv (.slot 2), some 45, none⟩, []⟩,
  ⟨⟨.bin .eql 2 .num (.slot 45) (.const (.int .i64 (.ofNat 0))), some 46, none⟩, []⟩,
  ⟨⟨.mv (.slot 46), some 47, none⟩, []⟩,
  ⟨⟨.faddr 1 (.slot 7), some 48, some (47, true)⟩, []⟩,
  ⟨⟨.load false 1 (.slot 48), some 49, some (47, true)⟩, []⟩,
  ⟨⟨.call (.const (.func 53 [] [])) [(.slot 49)], some 50, some (47, true)⟩, []⟩,
  ⟨⟨.un .not (.slot 50), some 51, some (47, true)⟩, []⟩,
  ⟨⟨.pick (.slot 47) (.slot 51) (.const (.bool false)), some 52, none⟩, []⟩,
  ⟨⟨.mv (.slot 52), some 41, none⟩, []⟩]
def r35_10 : List XLine := [⟨⟨.mv (.slot 2), some 53, none⟩, []⟩,
  ⟨⟨.bin .neq 2 .num (.slot 53) (.const (.int .i64 (.ofNat 0))), some 54, none⟩, []⟩,
  ⟨⟨.mv (.slot 54), some 55, none⟩, []⟩,
  ⟨⟨.faddr 1 (.slot 9), some 56, some (55, true)⟩, []⟩,
  ⟨⟨.load false 1 (.slot 56), some 57, some (55, true)⟩, []⟩,
  ⟨⟨.faddr 1 (.slot 7), some 58, some (55, true)⟩, []⟩,
  ⟨⟨.load false 1 (.slot 58), some 59, some (55, true)⟩, []⟩,
  ⟨⟨.call (.const (.func 55 [] [])) [(.slot 57), (.slot 59)], some 60, some (55, true)⟩, []⟩,
  ⟨⟨.un .not (.slot 60), some 61, some (55, true)⟩, []⟩,
  ⟨⟨.pick (.slot 55) (.slot 61) (.const (.bool false)), some 62, none⟩, []⟩,
  ⟨⟨.mv (.slot 62), some 41, none⟩, []⟩]
def r35_11 : List XLine := [⟨⟨.mv (.const (.int .i64 (.ofNat 2))), some 6, none⟩, []⟩]
def r35_12 : List XLine := [⟨⟨.mv (.slot 0), some 63, none⟩, []⟩,
  ⟨⟨.load true 3 (.slot 7), some 64, none⟩, []⟩,
  ⟨⟨.call (.const (.func 54 [] [])) [(.slot 63), (.slot 64)], some 65, none⟩, []⟩,
  ⟨⟨.mv (.slot 65), some 11, none⟩, []⟩]
def r35_13 : List XLine := [⟨⟨.mv (.slot 11), some 66, none⟩, []⟩,
  ⟨⟨.bin .neq 27 .num (.slot 66) (.const (.int .i64 (.ofNat 0))), some 67, none⟩, []⟩]
def r35_14 : List XLine := [⟨⟨.mv (.slot 11), some 68, none⟩, []⟩,
  ⟨⟨.mv (.slot 68), some 6, none⟩, []⟩]
def r35_15 : List XLine := [⟨⟨.mv (.slot 2), some 69, none⟩, []⟩,
  ⟨⟨.bin .neq 2 .num (.slot 69) (.const (.int .i64 (.ofNat 0))), some 70, none⟩, []⟩,
  ⟨⟨.mv (.slot 70), some 71, none⟩, []⟩,
  ⟨⟨.faddr 2 (.slot 7), some 72, some (71, true)⟩, []⟩,
  ⟨⟨.load false 1 (.slot 72), some 73, some (71, true)⟩, []⟩,
  ⟨⟨.un .not (.slot 73), some 74, some (71, true)⟩, []⟩,
  ⟨⟨.pick (.slot 71) (.slot 74) (.const (.bool false)), some 75, none⟩, []⟩]
def r35_16 : List XLine := [⟨⟨.mv (.slot 0), some 76, none⟩, []⟩,
  ⟨⟨.load true 3 (.slot 9), some 77, none⟩, []⟩,
  ⟨⟨.call (.const (.func 56 [] [])) [(.slot 76), (.slot 77)], some 78, none⟩, []⟩]
def r35_17 : List XLine := [⟨⟨.mv (.slot 0), some 79, none⟩, []⟩,
  ⟨⟨.mv (.slot 1), some 80, none⟩, []⟩,
  ⟨⟨.mv (.slot 2), some 81, none⟩, []⟩,
  ⟨⟨.build [(.int .u8 (.ofNat 0)), (.int .i64 (.ofNat 0)), (.int .i64 (.ofNat 0)), (.bool false), .nils, .nils] [(0, 1, (.const (.int .u8 (.ofNat 4)))), (1, 1, (.slot 80)), (2, 1, (.slot 81))], some 82, none⟩, []⟩,
  ⟨⟨.call (.const (.func 25 [] [])) [(.slot 79), (.slot 82)], some 83, none⟩, []⟩,
  ⟨⟨.mv (.slot 83), some 6, none⟩, []⟩]
def xf35 : XFunc := ⟨(.seq (.region false r35_0)
  (.seq (.seq (.region false r35_1)
  (.cond (.slot 13)
  (.seq (.region false r35_2)
  .ret)
  .skip))
  (.seq (.region false r35_3)
  (.seq (.region false r35_4)
  (.seq (.block 0 (.seq (.seq (.region false r35_5)
  (.cond (.slot 32)
  .skip
  (.region false r35_6)))
  (.cond (.slot 32)
  (.seq (.region false r35_7)
  .ret)
  (.seq (.seq (.region false r35_8)
  (.cond (.slot 41)
  .skip
  (.seq (.region false r35_9)
  (.cond (.slot 41)
  .skip
  (.region false r35_10)))))
  (.cond (.slot 41)
  (.seq (.region false r35_11)
  .ret)
  .skip)))))
  (.seq (.seq (.region false r35_12)
  (.seq (.region false r35_13)
  (.cond (.slot 67)
  (.seq (.region false r35_14)
  .ret)
  .skip)))
  (.seq (.seq (.region false r35_15)
  (.cond (.slot 75)
  (.region false r35_16)
  .skip))
  (.seq (.region false r35_17)
  .ret)))))))),
  [.tmp 6]⟩
theorem xf35_ok : compFunc Try.prog Try.f35 = some xf35 := by kernel_rfl
/- slices.Collect[int64] -/
def r36_0 : List XLine := [⟨⟨.mv (.const .nils), some 2, none⟩, []⟩]
def r36_1 : List XLine := [⟨⟨.mv (.slot 0), some 3, none⟩, []⟩,
  ⟨⟨.call (.const (.func 57 [] [])) [(.const .nils), (.slot 3)], some 4, none⟩, []⟩,
  ⟨⟨.mv (.slot 4), some 2, none⟩, []⟩]
def xf36 : XFunc := ⟨(.seq (.region false r36_0)
  (.seq (.region false r36_1)
  .ret)),
  [.tmp 2]⟩
theorem xf36_ok : compFunc Try.prog Try.f36 = some xf36 := by kernel_rfl
/- slices.Sort[[]int64,int64] -/
def r37_0 : List XLine := [⟨⟨.mv (.slot 0), some 3, none⟩, []⟩,
  ⟨⟨.len .slice (.slot 3), some 4, none⟩, []⟩,
  ⟨⟨.mv (.slot 4), some 2, none⟩, []⟩]
def r37_1 : List XLine := [⟨⟨.mv (.slot 0), some 5, none⟩, []⟩,
  ⟨⟨.mv (.slot 2), some 6, none⟩, []⟩,
  ⟨⟨.mv (.slot 2), some 7, none⟩, []⟩,
  ⟨⟨.conv .u64 (.slot 7), some 8, none⟩, []⟩,
  ⟨⟨.call (.const (.func 44 [] [])) [(.slot 8)], some 9, none⟩, []⟩,
  ⟨⟨.call (.const (.func 58 [] [])) [(.slot 5), (.const (.int .i64 (.ofNat 0))), (.slot 6), (.slot 9)], some 10, none⟩, []⟩]
def xf37 : XFunc := ⟨(.seq (.region false r37_0)
  (.region false r37_1)),
  []⟩
theorem xf37_ok : compFunc Try.prog Try.f37 = some xf37 := by kernel_rfl
/- maps.Keys[map[int64]threshing/api.Entry,int64,threshing/api.Entry]$1 -/
def r38_0 : List XLine := [⟨⟨.load false 1 (.slot 1), some 4, none⟩, []⟩,
  ⟨⟨.range .i64 (.slot 4), some 5, none⟩, []⟩]
def r38_1 : List XLine := [⟨⟨.next (.slot 5), some 6, none⟩, []⟩,
  ⟨⟨.extract (.slot 6) 0, some 7, none⟩, []⟩]
def r38_2 : List XLine := [⟨⟨.entry (.slot 5), some 8, none⟩, []⟩,
  ⟨⟨.extract (.slot 8) 0, some 9, none⟩, []⟩,
  ⟨⟨.mv (.slot 9), some 3, none⟩, []⟩]
def r38_3 : List XLine := [⟨⟨.mv (.slot 0), some 10, none⟩, []⟩,
  ⟨⟨.mv (.slot 3), some 11, none⟩, []⟩,
  ⟨⟨.call (.slot 10) [(.slot 11)], some 12, none⟩, []⟩,
  ⟨⟨.un .not (.slot 12), some 13, none⟩, []⟩]
def xf38 : XFunc := ⟨(.seq (.region false r38_0)
  (.block 0 (.loop (.seq (.region false r38_1)
  (.seq (.cond (.slot 7)
  .skip
  (.exit 0))
  (.block 1 (.seq (.region false r38_2)
  (.seq (.region false r38_3)
  (.cond (.slot 13)
  .ret
  .skip))))))))),
  []⟩
theorem xf38_ok : compFunc Try.prog Try.f38 = some xf38 := by kernel_rfl
/- slices.ContainsFunc[threshing/api.Clause,threshing/api.Lit] -/
def r39_0 : List XLine := [⟨⟨.mv (.const (.bool false)), some 4, none⟩, []⟩]
def r39_1 : List XLine := [⟨⟨.mv (.slot 0), some 5, none⟩, []⟩,
  ⟨⟨.mv (.slot 1), some 6, none⟩, []⟩,
  ⟨⟨.call (.const (.func 59 [] [])) [(.slot 5), (.slot 6)], some 7, none⟩, []⟩,
  ⟨⟨.bin .geq 3 .num (.slot 7) (.const (.int .i64 (.ofNat 0))), some 8, none⟩, []⟩,
  ⟨⟨.mv (.slot 8), some 4, none⟩, []⟩]
def xf39 : XFunc := ⟨(.seq (.region false r39_0)
  (.seq (.region false r39_1)
  .ret)),
  [.tmp 4]⟩
theorem xf39_ok : compFunc Try.prog Try.f39 = some xf39 := by kernel_rfl
/- (*threshing/base.Base).right$1 -/
def r40_0 : List XLine := [⟨⟨.mv (.const (.bool false)), some 3, none⟩, []⟩]
def r40_1 : List XLine := [⟨⟨.mv (.slot 0), some 4, none⟩, []⟩,
  ⟨⟨.bin .eql 24 .num (.slot 4) (.const (.int .i32 (.ofNat 0))), some 5, none⟩, []⟩,
  ⟨⟨.mv (.slot 5), some 6, none⟩, []⟩,
  ⟨⟨.mv (.slot 0), some 7, some (6, false)⟩, []⟩,
  ⟨⟨.load false 1 (.slot 1), some 9, some (6, false)⟩, []⟩,
  ⟨⟨.nilCheck (.slot 9), some 10, some (6, false)⟩, []⟩,
  ⟨⟨.faddr 0 (.slot 10), some 11, some (6, false)⟩, []⟩,
  ⟨⟨.load false 1 (.slot 11), some 12, some (6, false)⟩, []⟩,
  ⟨⟨.call (.const (.func 41 [] [])) [(.slot 7)], some 8, some (6, false)⟩, [⟨.load false 1 (.slot 1), some 9, some (6, false)⟩, ⟨.load false 1 (.slot 11), some 12, some (6, false)⟩]⟩,
  ⟨⟨.bin .gtr 3 .num (.slot 8) (.slot 12), some 13, some (6, false)⟩, []⟩,
  ⟨⟨.pick (.slot 6) (.const (.bool true)) (.slot 13), some 14, none⟩, []⟩,
  ⟨⟨.mv (.slot 14), some 3, none⟩, []⟩]
def xf40 : XFunc := ⟨(.seq (.region false r40_0)
  (.seq (.region true r40_1)
  .ret)),
  [.tmp 3]⟩
theorem xf40_ok : compFunc Try.prog Try.f40 = some xf40 := by kernel_rfl
/- threshing/cnf.Var -/
def r41_0 : List XLine := [⟨⟨.mv (.const (.int .i64 (.ofNat 0))), some 2, none⟩, []⟩]
def r41_1 : List XLine := [⟨⟨.mv (.slot 0), some 3, none⟩, []⟩,
  ⟨⟨.call (.const (.func 60 [] [])) [(.slot 3)], some 4, none⟩, []⟩,
  ⟨⟨.mv (.slot 4), some 2, none⟩, []⟩]
def xf41 : XFunc := ⟨(.seq (.region false r41_0)
  (.seq (.region false r41_1)
  .ret)),
  [.tmp 2]⟩
theorem xf41_ok : compFunc Try.prog Try.f41 = some xf41 := by kernel_rfl
/- (*threshing/base.Base).follows$1 -/
def r42_0 : List XLine := [⟨⟨.mv (.const (.bool false)), some 3, none⟩, []⟩]
def r42_1 : List XLine := [⟨⟨.load false 1 (.slot 1), some 4, none⟩, []⟩,
  ⟨⟨.mv (.slot 0), some 5, none⟩, []⟩,
  ⟨⟨.mapup .i32 (.slot 4) (.slot 5) (.const (.bool true)), none, none⟩, []⟩]
def r42_2 : List XLine := [⟨⟨.load false 1 (.slot 1), some 6, none⟩, []⟩,
  ⟨⟨.mv (.slot 0), some 7, none⟩, []⟩,
  ⟨⟨.un .neg (.slot 7), some 8, none⟩, []⟩,
  ⟨⟨.lookup .i32 (.bool false) (.slot 6) (.slot 8) false, some 9, none⟩, []⟩,
  ⟨⟨.mv (.slot 9), some 3, none⟩, []⟩]
def xf42 : XFunc := ⟨(.seq (.region false r42_0)
  (.seq (.region false r42_1)
  (.seq (.region false r42_2)
  .ret))),
  [.tmp 3]⟩
theorem xf42_ok : compFunc Try.prog Try.f42 = some xf42 := by kernel_rfl
/- slices.pdqsortCmpFunc[threshing/api.Lit] -/
def r43_0 : List XLine := [⟨⟨.mv (.const (.bool true)), some 10, none⟩, []⟩]
def r43_1 : List XLine := [⟨⟨.mv (.const (.bool true)), some 11, none⟩, []⟩]
def r43_2 : List XLine := [⟨⟨.mv (.slot 2), some 21, none⟩, []⟩,
  ⟨⟨.mv (.slot 1), some 22, none⟩, []⟩,
  ⟨⟨.bin .sub 3 .num (.slot 21) (.slot 22), some 23, none⟩, []⟩,
  ⟨⟨.mv (.slot 23), some 12, none⟩, []⟩]
def r43_3 : List XLine := [⟨⟨.mv (.slot 12), some 24, none⟩, []⟩,
  ⟨⟨.bin .leq 3 .num (.slot 24) (.const (.int .i64 (.ofNat 12))), some 25, none⟩, []⟩]
def r43_4 : List XLine := [⟨⟨.mv (.slot 0), some 26, none⟩, []⟩,
  ⟨⟨.mv (.slot 1), some 27, none⟩, []⟩,
  ⟨⟨.mv (.slot 2), some 28, none⟩, []⟩,
  ⟨⟨.mv (.slot 4), some 29, none⟩, []⟩,
  ⟨⟨.call (.const (.func 61 [] [])) [(.slot 26), (.slot 27), (.slot 28), (.slot 29)], some 30, none⟩, []⟩]
def r43_5 : List XLine := [⟨⟨.mv (.slot 3), some 31, none⟩, []⟩,
  ⟨⟨.bin .eql 3 .num (.slot 31) (.const (.int .i64 (.ofNat 0))), some 32, none⟩, []⟩]
def r43_6 : List XLine := [⟨⟨.mv (.slot 0), some 33, none⟩, []⟩,
  ⟨⟨.mv (.slot 1), some 34, none⟩, []⟩,
  ⟨⟨.mv (.slot 2), some 35, none⟩, []⟩,
  ⟨⟨.mv (.slot 4), some 36, none⟩, []⟩,
  ⟨⟨.call (.const (.func 62 [] [])) [(.slot 33), (.slot 34), (.slot 35), (.slot 36)], some 37, none⟩, []⟩]
def r43_7 : List XLine := [⟨⟨.mv (.slot 10), some 38, none⟩, []⟩,
  ⟨⟨.un .not (.slot 38), some 39, none⟩, []⟩]
def r43_8 : List XLine := [⟨⟨.mv (.slot 0), some 40, none⟩, []⟩,
  ⟨⟨.mv (.slot 1), some 41, none⟩, []⟩,
  ⟨⟨.mv (.slot 2), some 42, none⟩, []⟩,
  ⟨⟨.mv (.slot 4), some 43, none⟩, []⟩,
  ⟨⟨.call (.const (.func 63 [] [])) [(.slot 40), (.slot 41), (.slot 42), (.slot 43)], some 44, none⟩, []⟩]
def r43_9 : List XLine := [⟨⟨.mv (.slot 3), some 45, none⟩, []⟩,
  ⟨⟨.bin .sub 3 .num (.slot 45) (.const (.int .i64 (.ofNat 1))), some 46, none⟩, []⟩,
  ⟨⟨.mv (.slot 46), some 3, none⟩, []⟩]
def r43_10 : List XLine := [⟨⟨.mv (.slot 0), some 48, none⟩, []⟩,
  ⟨⟨.mv (.slot 1), some 49, none⟩, []⟩,
  ⟨⟨.mv (.slot 2), some 50, none⟩, []⟩,
  ⟨⟨.mv (.slot 4), some 51, none⟩, []⟩,
  ⟨⟨.call (.const (.func 64 [] [])) [(.slot 48), (.slot 49), (.slot 50), (.slot 51)], some 52, none⟩, []⟩,
  ⟨⟨.mv (.slot 52), some 47, none⟩, []⟩,
  ⟨⟨.extract (.slot 47) 0, some 53, none⟩, []⟩,
  ⟨⟨.extract (.slot 47) 1, some 54, none⟩, []⟩,
  ⟨⟨.mv (.slot 53), some 13, none⟩, []⟩,
  ⟨⟨.mv (.slot 54), some 14, none⟩, []⟩]
def r43_11 : List XLine := [⟨⟨.mv (.slot 14), some 55, none⟩, []⟩,
  ⟨⟨.bin .eql 113 .num (.slot 55) (.const (.int .i64 (.ofNat 2))), some 56, none⟩, []⟩]
def r43_12 : List XLine := [⟨⟨.mv (.slot 0), some 57, none⟩, []⟩,
  ⟨⟨.mv (.slot 1), some 58, none⟩, []⟩,
  ⟨⟨.mv (.slot 2), some 59, none⟩, []⟩,
  ⟨⟨.mv (.slot 4), some 60, none⟩, []⟩,
  ⟨⟨.call (.const (.func 65 [] [])) [(.slot 57), (.slot 58), (.slot 59), (.slot 60)], some 61, none⟩, []⟩]
def r43_13 : List XLine := [⟨⟨.mv (.slot 2), some 62, none⟩, []⟩,
  ⟨⟨.bin .sub 3 .num (.slot 62) (.const (.int .i64 (.ofNat 1))), some 63, none⟩, []⟩,
  ⟨⟨.mv (.slot 13), some 64, none⟩, []⟩,
  ⟨⟨.mv (.slot 1), some 65, none⟩, []⟩,
  ⟨⟨.bin .sub 3 .num (.slot 64) (.slot 65), some 66, none⟩, []⟩,
  ⟨⟨.bin .sub 3 .num (.slot 63) (.slot 66), some 67, none⟩, []⟩,
  ⟨⟨.mv (.slot 67), some 13, none⟩, []⟩]
def r43_14 : List XLine := [⟨⟨.mv (.const (.int .i64 (.ofNat 1))), some 14, none⟩, []⟩]
def r43_15 : List XLine := [⟨⟨.mv (.slot 10), some 68, none⟩, []⟩,
  ⟨⟨.mv (.slot 68), some 69, none⟩, []⟩,
  ⟨⟨.mv (.slot 11), some 70, some (69, true)⟩, []⟩,
  ⟨⟨.pick (.slot 69) (.slot 70) (.const (.bool false)), some 71, none⟩, []⟩,
  ⟨⟨.mv (.slot 71), some 72, none⟩, []⟩,
  ⟨⟨.mv (.slot 14), some 73, some (72, true)⟩, []⟩,
  ⟨⟨.bin .eql 113 .num (.slot 73) (.const (.int .i64 (.ofNat 1))), some 74, some (72, true)⟩, []⟩,
  ⟨⟨.pick (.slot 72) (.slot 74) (.const (.bool false)), some 75, none⟩, []⟩]
def r43_16 : List XLine := [⟨⟨.mv (.slot 0), some 76, none⟩, []⟩,
  ⟨⟨.mv (.slot 1), some 77, none⟩, []⟩,
  ⟨⟨.mv (.slot 2), some 78, none⟩, []⟩,
  ⟨⟨.mv (.slot 4), some 79, none⟩, []⟩,
  ⟨⟨.call (.const (.func 66 [] [])) [(.slot 76), (.slot 77), (.slot 78), (.slot 79)], some 80, none⟩, []⟩]
def r43_17 : List XLine := [⟨⟨.mv (.slot 1), some 81, none⟩, []⟩,
  ⟨⟨.bin .gtr 3 .num (.slot 81) (.const (.int .i64 (.ofNat 0))), some 82, none⟩, []⟩,
  ⟨⟨.mv (.slot 82), some 83, none⟩, []⟩,
  ⟨⟨.mv (.slot 4), some 84, some (83, true)⟩, []⟩,
  ⟨⟨.mv (.slot 0), some 85, some (83, true)⟩, []⟩,
  ⟨⟨.mv (.slot 1), some 86, some (83, true)⟩, []⟩,
  ⟨⟨.bin .sub 3 .num (.slot 86) (.const (.int .i64 (.ofNat 1))), some 87, some (83, true)⟩, []⟩,
  ⟨⟨.iaddr 1 (.slot 85) (.slot 87), some 88, some (83, true)⟩, []⟩,
  ⟨⟨.load false 1 (.slot 88), some 89, some (83, true)⟩, []⟩,
  ⟨⟨.mv (.slot 0), some 90, some (83, true)⟩, []⟩,
  ⟨⟨.mv (.slot 13), some 91, some (83, true)⟩, []⟩,
  ⟨⟨.iaddr 1 (.slot 90) (.slot 91), some 92, some (83, true)⟩, []⟩,
  ⟨⟨.load false 1 (.slot 92), some 93, some (83, true)⟩, []⟩,
  ⟨⟨.call (.slot 84) [(.slot 89), (.slot 93)], some 94, some (83, true)⟩, []⟩,
  ⟨⟨.bin .lss 3 .num (.slot 94) (.const (.int .i64 (.ofNat 0))), some 95, some (83, true)⟩, []⟩,
  ⟨⟨.un .not (.slot 95), some 96, some (83, true)⟩, []⟩,
  ⟨⟨.pick (.slot 83) (.slot 96) (.const (.bool false)), some 97, none⟩, []⟩]
def r43_18 : List XLine := [⟨⟨.mv (.slot 0), some 98, none⟩, []⟩,
  ⟨⟨.mv (.slot 1), some 99, none⟩, []⟩,
  ⟨⟨.mv (.slot 2), some 100, none⟩, []⟩,
  ⟨⟨.mv (.slot 13), some 101, none⟩, []⟩,
  ⟨⟨.mv (.slot 4), some 102, none⟩, []⟩,
  ⟨⟨.call (.const (.func 67 [] [])) [(.slot 98), (.slot 99), (.slot 100), (.slot 101), (.slot 102)], some 103, none⟩, []⟩,
  ⟨⟨.mv (.slot 103), some 15, none⟩, []⟩]
def r43_19 : List XLine := [⟨⟨.mv (.slot 15), some 104, none⟩, []⟩,
  ⟨⟨.mv (.slot 104), some 1, none⟩, []⟩]
def r43_20 : List XLine := [⟨⟨.mv (.slot 0), some 106, none⟩, []⟩,
  ⟨⟨.mv (.slot 1), some 107, none⟩, []⟩,
  ⟨⟨.mv (.slot 2), some 108, none⟩, []⟩,
  ⟨⟨.mv (.slot 13), some 109, none⟩, []⟩,
  ⟨⟨.mv (.slot 4), some 110, none⟩, []⟩,
  ⟨⟨.call (.const (.func 68 [] [])) [(.slot 106), (.slot 107), (.slot 108), (.slot 109), (.slot 110)], some 111, none⟩, []⟩,
  ⟨⟨.mv (.slot 111), some 105, none⟩, []⟩,
  ⟨⟨.extract (.slot 105) 0, some 112, none⟩, []⟩,
  ⟨⟨.extract (.slot 105) 1, some 113, none⟩, []⟩,
  ⟨⟨.mv (.slot 112), some 16, none⟩, []⟩,
  ⟨⟨.mv (.slot 113), some 17, none⟩, []⟩]
def r43_21 : List XLine := [⟨⟨.mv (.slot 17), some 114, none⟩, []⟩,
  ⟨⟨.mv (.slot 114), some 11, none⟩, []⟩]
def r43_22 : List XLine := [⟨⟨.mv (.slot 16), some 115, none⟩, []⟩,
  ⟨⟨.mv (.slot 1), some 116, none⟩, []⟩,
  ⟨⟨.bin .sub 3 .num (.slot 115) (.slot 116), some 117, none⟩, []⟩,
  ⟨⟨.mv (.slot 2), some 118, none⟩, []⟩,
  ⟨⟨.mv (.slot 16), some 119, none⟩, []⟩,
  ⟨⟨.bin .sub 3 .num (.slot 118) (.slot 119), some 120, none⟩, []⟩,
  ⟨⟨.mv (.slot 117), some 18, none⟩, []⟩,
  ⟨⟨.mv (.slot 120), some 19, none⟩, []⟩]
def r43_23 : List XLine := [⟨⟨.mv (.slot 12), some 121, none⟩, []⟩,
  ⟨⟨.bin .quo 3 .num (.slot 121) (.const (.int .i64 (.ofNat 8))), some 122, none⟩, []⟩,
  ⟨⟨.mv (.slot 122), some 20, none⟩, []⟩]
def r43_24 : List XLine := [⟨⟨.mv (.slot 18), some 123, none⟩, []⟩,
  ⟨⟨.mv (.slot 19), some 124, none⟩, []⟩,
  ⟨⟨.bin .lss 3 .num (.slot 123) (.slot 124), some 125, none⟩, []⟩]
def r43_25 : List XLine := [⟨⟨.mv (.slot 18), some 126, none⟩, []⟩,
  ⟨⟨.mv (.slot 20), some 127, none⟩, []⟩,
  ⟨⟨.bin .geq 3 .num (.slot 126) (.slot 127), some 128, none⟩, []⟩,
  ⟨⟨.mv (.slot 128), some 10, none⟩, []⟩]
def r43_26 : List XLine := [⟨⟨.mv (.slot 0), some 129, none⟩, []⟩,
  ⟨⟨.mv (.slot 1), some 130, none⟩, []⟩,
  ⟨⟨.mv (.slot 16), some 131, none⟩, []⟩,
  ⟨⟨.mv (.slot 3), some 132, none⟩, []⟩,
  ⟨⟨.mv (.slot 4), some 133, none⟩, []⟩,
  ⟨⟨.call (.const (.func 43 [] [])) [(.slot 129), (.slot 130), (.slot 131), (.slot 132), (.slot 133)], some 134, none⟩, []⟩]
def r43_27 : List XLine := [⟨⟨.mv (.slot 16), some 135, none⟩, []⟩,
  ⟨⟨.bin .add 3 .num (.slot 135) (.const (.int .i64 (.ofNat 1))), some 136, none⟩, []⟩,
  ⟨⟨.mv (.slot 136), some 1, none⟩, []⟩]
def r43_28 : List XLine := [⟨⟨.mv (.slot 19), some 137, none⟩, []⟩,
  ⟨⟨.mv (.slot 20), some 138, none⟩, []⟩,
  ⟨⟨.bin .geq 3 .num (.slot 137) (.slot 138), some 139, none⟩, []⟩,
  ⟨⟨.mv (.slot 139), some 10, none⟩, []⟩]
def r43_29 : List XLine := [⟨⟨.mv (.slot 0), some 140, none⟩, []⟩,
  ⟨⟨.mv (.slot 16), some 141, none⟩, []⟩,
  ⟨⟨.bin .add 3 .num (.slot 141) (.const (.int .i64 (.ofNat 1))), some 142, none⟩, []⟩,
  ⟨⟨.mv (.slot 2), some 143, none⟩, []⟩,
  ⟨⟨.mv (.slot 3), some 144, none⟩, []⟩,
  ⟨⟨.mv (.slot 4), some 145, none⟩, []⟩,
  ⟨⟨.call (.const (.func 43 [] [])) [(.slot 140), (.slot 142), (.slot 143), (.slot 144), (.slot 145)], some 146, none⟩, []⟩]
def r43_30 : List XLine := [⟨⟨.mv (.slot 16), some 147, none⟩, []⟩,
  ⟨⟨.mv (.slot 147), some 2, none⟩, []⟩]
def xf43 : XFunc := ⟨(.seq (.region false r43_0)
  (.seq (.region false r43_1)
  (.block 0 (.loop (.block 1 (.seq (.region false r43_2)
  (.seq (.seq (.region false r43_3)
  (.cond (.slot 25)
  (.seq (.region false r43_4)
  .ret)
  .skip))
  (.seq (.seq (.region false r43_5)
  (.cond (.slot 32)
  (.seq (.region false r43_6)
  .ret)
  .skip))
  (.seq (.seq (.region false r43_7)
  (.cond (.slot 39)
  (.seq (.region false r43_8)
  (.region false r43_9))
  .skip))
  (.seq (.region false r43_10)
  (.seq (.seq (.region false r43_11)
  (.cond (.slot 56)
  (.seq (.region false r43_12)
  (.seq (.region false r43_13)
  (.region false r43_14)))
  .skip))
  (.seq (.seq (.region false r43_15)
  (.cond (.slot 75)
  (.seq (.region false r43_16)
  (.cond (.slot 80)
  .ret
  .skip))
  .skip))
  (.seq (.seq (.region true r43_17)
  (.cond (.slot 97)
  (.seq (.region false r43_18)
  (.seq (.region false r43_19)
  (.exit 1)))
  .skip))
  (.seq (.region false r43_20)
  (.seq (.region false r43_21)
  (.seq (.region false r43_22)
  (.seq (.region false r43_23)
  (.seq (.region false r43_24)
  (.cond (.slot 125)
  (.seq (.region false r43_25)
  (.seq (.region false r43_26)
  (.region false r43_27)))
  (.seq (.region false r43_28)
  (.seq (.region false r43_29)
  (.region false r43_30)))))))))))))))))))))),
  []⟩
theorem xf43_ok : compFunc Try.prog Try.f43 = some xf43 := by kernel_rfl
end Go.Proofs.Ytaljkapnfkbdbaa

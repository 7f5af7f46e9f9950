/- The functions of the program in X's code, printed by a program of ours; each is what the program's own is turned to. -/
import Derived.Test.YtcpkfdabkpeomaaGreatProg
import Derived.Test.YtcpkfdabkpeomaaGreatW0
import Derived.KernelRfl
namespace Go.Proofs.YtcpkfdabkpeomaaGreat
open Go.Xr
/- slices.Clone[[]int64,int64] -/
def r68_0 : List XLine := [⟨⟨.mv (.const .nils), some 2, none⟩, []⟩]
def r68_1 : List XLine := [⟨⟨.mv (.slot 0), some 3, none⟩, []⟩,
  ⟨⟨.bin .eql 37 .slice (.slot 3) (.const .nils), some 4, none⟩, []⟩]
def r68_2 : List XLine := [⟨⟨.mv (.const .nils), some 2, none⟩, []⟩]
def r68_3 : List XLine := [⟨⟨.bslice 1 [] [] 0, some 5, none⟩, []⟩,
  ⟨⟨.mv (.slot 0), some 6, none⟩, []⟩,
  ⟨⟨.append 1 8 (.slot 5) (.slot 6), some 7, none⟩, []⟩,
  ⟨⟨.mv (.slot 7), some 2, none⟩, []⟩]
def xf68 : XFunc := ⟨(.seq (.region false r68_0)
  (.seq (.seq (.region false r68_1)
  (.cond (.slot 4)
  (.seq (.region false r68_2)
  .ret)
  .skip))
  (.seq (.region false r68_3)
  .ret))),
  [.tmp 2]⟩
theorem xf68_ok : compFunc Tryz.prog Tryz.f68 = some xf68 := by kernel_rfl
/- (*threshing/base.Base).note -/
def r69_0 : List XLine := [⟨⟨.box (.slot 1), some 3, none⟩, []⟩,
  ⟨⟨.mv (.const (.int .i64 (.ofNat 0))), some 4, none⟩, []⟩]
def r69_1 : List XLine := [⟨⟨.mv (.slot 0), some 5, none⟩, []⟩,
  ⟨⟨.mv (.slot 0), some 6, none⟩, []⟩,
  ⟨⟨.nilCheck (.slot 6), some 7, none⟩, []⟩,
  ⟨⟨.faddr 7 (.slot 7), some 8, none⟩, []⟩,
  ⟨⟨.load false 1 (.slot 8), some 9, none⟩, []⟩,
  ⟨⟨.load true 6 (.slot 3), some 10, none⟩, []⟩,
  ⟨⟨.bslice 6 [(.int .u8 (.ofNat 0)), (.int .i64 (.ofNat 0)), (.int .i64 (.ofNat 0)), (.bool false), .nils, .nils] [(0, 6, (.slot 10))] 1, some 11, none⟩, [⟨.load false 1 (.slot 8), some 9, none⟩]⟩,
  ⟨⟨.append 6 80 (.slot 9) (.slot 11), some 12, none⟩, []⟩,
  ⟨⟨.nilCheck (.slot 5), some 13, none⟩, []⟩,
  ⟨⟨.faddr 7 (.slot 13), some 14, none⟩, []⟩,
  ⟨⟨.store 1 (.slot 14) (.slot 12), none, none⟩, []⟩]
def r69_2 : List XLine := [⟨⟨.mv (.const (.int .i64 (.ofNat 0))), some 4, none⟩, []⟩]
def xf69 : XFunc := ⟨(.seq (.region false r69_0)
  (.seq (.region true r69_1)
  (.seq (.region false r69_2)
  .ret))),
  [.tmp 4]⟩
theorem xf69_ok : compFunc Tryz.prog Tryz.f69 = some xf69 := by kernel_rfl
/- threshing/cnf.Same -/
def r70_0 : List XLine := [⟨⟨.mv (.const (.bool false)), some 4, none⟩, []⟩]
def r70_1 : List XLine := [⟨⟨.mv (.slot 0), some 5, none⟩, []⟩,
  ⟨⟨.mv (.slot 1), some 6, none⟩, []⟩,
  ⟨⟨.call (.const (.func 84 [] [])) [(.slot 5), (.slot 6)], some 7, none⟩, []⟩,
  ⟨⟨.mv (.slot 7), some 8, none⟩, []⟩,
  ⟨⟨.mv (.slot 1), some 9, some (8, true)⟩, []⟩,
  ⟨⟨.mv (.slot 0), some 10, some (8, true)⟩, []⟩,
  ⟨⟨.call (.const (.func 84 [] [])) [(.slot 9), (.slot 10)], some 11, some (8, true)⟩, []⟩,
  ⟨⟨.pick (.slot 8) (.slot 11) (.const (.bool false)), some 12, none⟩, []⟩,
  ⟨⟨.mv (.slot 12), some 4, none⟩, []⟩]
def xf70 : XFunc := ⟨(.seq (.region false r70_0)
  (.seq (.region false r70_1)
  .ret)),
  [.tmp 4]⟩
theorem xf70_ok : compFunc Tryz.prog Tryz.f70 = some xf70 := by kernel_rfl
/- slices.Grow[[]int64,int64] -/
def r71_0 : List XLine := [⟨⟨.mv (.const .nils), some 4, none⟩, []⟩]
def r71_1 : List XLine := [⟨⟨.mv (.slot 1), some 5, none⟩, []⟩,
  ⟨⟨.bin .lss 3 .num (.slot 5) (.const (.int .i64 (.ofNat 0))), some 6, none⟩, []⟩]
def r71_2 : List XLine := [⟨⟨.mkif 9 (.const (.str ⟨⟨[99, 97, 110, 110, 111, 116, 32, 98, 101, 32, 110, 101, 103, 97, 116, 105, 118, 101]⟩⟩)), some 7, none⟩, []⟩,
  ⟨⟨.bad, none, none⟩, []⟩]
def r71_3 : List XLine := [⟨⟨.mv (.slot 1), some 8, none⟩, []⟩,
  ⟨⟨.mv (.slot 0), some 9, none⟩, []⟩,
  ⟨⟨.cap (.slot 9), some 10, none⟩, []⟩,
  ⟨⟨.mv (.slot 0), some 11, none⟩, []⟩,
  ⟨⟨.len .slice (.slot 11), some 12, none⟩, []⟩,
  ⟨⟨.bin .sub 3 .num (.slot 10) (.slot 12), some 13, none⟩, []⟩,
  ⟨⟨.bin .sub 3 .num (.slot 8) (.slot 13), some 14, none⟩, []⟩,
  ⟨⟨.mv (.slot 14), some 1, none⟩, []⟩]
def r71_4 : List XLine := [⟨⟨.mv (.slot 1), some 15, none⟩, []⟩,
  ⟨⟨.bin .gtr 3 .num (.slot 15) (.const (.int .i64 (.ofNat 0))), some 16, none⟩, []⟩]
def r71_5 : List XLine := [⟨⟨.mv (.slot 0), some 17, none⟩, []⟩,
  ⟨⟨.mv (.slot 0), some 18, none⟩, []⟩,
  ⟨⟨.cap (.slot 18), some 19, none⟩, []⟩,
  ⟨⟨.slc 1 (.slot 17) none (some (.slot 19)) none, some 20, none⟩, []⟩,
  ⟨⟨.mv (.slot 1), some 21, none⟩, []⟩,
  ⟨⟨.appendZ 1 8 [(.int .i64 (.ofNat 0))] (.slot 20) (.slot 21), some 22, none⟩, []⟩,
  ⟨⟨.mv (.slot 0), some 23, none⟩, []⟩,
  ⟨⟨.len .slice (.slot 23), some 24, none⟩, []⟩,
  ⟨⟨.slc 1 (.slot 22) none (some (.slot 24)) none, some 25, none⟩, []⟩,
  ⟨⟨.mv (.slot 25), some 0, none⟩, []⟩]
def r71_6 : List XLine := [⟨⟨.mv (.slot 0), some 26, none⟩, []⟩,
  ⟨⟨.mv (.slot 26), some 4, none⟩, []⟩]
def xf71 : XFunc := ⟨(.seq (.region false r71_0)
  (.seq (.seq (.region false r71_1)
  (.cond (.slot 6)
  (.region false r71_2)
  .skip))
  (.seq (.seq (.region false r71_3)
  (.seq (.region false r71_4)
  (.cond (.slot 16)
  (.region false r71_5)
  .skip)))
  (.seq (.region false r71_6)
  .ret)))),
  [.tmp 4]⟩
theorem xf71_ok : compFunc Tryz.prog Tryz.f71 = some xf71 := by kernel_rfl
/- slices.pdqsortOrdered[int64] -/
def r72_0 : List XLine := [⟨⟨.mv (.const (.bool true)), some 8, none⟩, []⟩]
def r72_1 : List XLine := [⟨⟨.mv (.const (.bool true)), some 9, none⟩, []⟩]
def r72_2 : List XLine := [⟨⟨.mv (.slot 2), some 19, none⟩, []⟩,
  ⟨⟨.mv (.slot 1), some 20, none⟩, []⟩,
  ⟨⟨.bin .sub 3 .num (.slot 19) (.slot 20), some 21, none⟩, []⟩,
  ⟨⟨.mv (.slot 21), some 10, none⟩, []⟩]
def r72_3 : List XLine := [⟨⟨.mv (.slot 10), some 22, none⟩, []⟩,
  ⟨⟨.bin .leq 3 .num (.slot 22) (.const (.int .i64 (.ofNat 12))), some 23, none⟩, []⟩]
def r72_4 : List XLine := [⟨⟨.mv (.slot 0), some 24, none⟩, []⟩,
  ⟨⟨.mv (.slot 1), some 25, none⟩, []⟩,
  ⟨⟨.mv (.slot 2), some 26, none⟩, []⟩,
  ⟨⟨.call (.const (.func 85 [] [])) [(.slot 24), (.slot 25), (.slot 26)], some 27, none⟩, []⟩]
def r72_5 : List XLine := [⟨⟨.mv (.slot 3), some 28, none⟩, []⟩,
  ⟨⟨.bin .eql 3 .num (.slot 28) (.const (.int .i64 (.ofNat 0))), some 29, none⟩, []⟩]
def r72_6 : List XLine := [⟨⟨.mv (.slot 0), some 30, none⟩, []⟩,
  ⟨⟨.mv (.slot 1), some 31, none⟩, []⟩,
  ⟨⟨.mv (.slot 2), some 32, none⟩, []⟩,
  ⟨⟨.call (.const (.func 86 [] [])) [(.slot 30), (.slot 31), (.slot 32)], some 33, none⟩, []⟩]
def r72_7 : List XLine := [⟨⟨.mv (.slot 8), some 34, none⟩, []⟩,
  ⟨⟨.un .not (.slot 34), some 35, none⟩, []⟩]
def r72_8 : List XLine := [⟨⟨.mv (.slot 0), some 36, none⟩, []⟩,
  ⟨⟨.mv (.slot 1), some 37, none⟩, []⟩,
  ⟨⟨.mv (.slot 2), some 38, none⟩, []⟩,
  ⟨⟨.call (.const (.func 87 [] [])) [(.slot 36), (.slot 37), (.slot 38)], some 39, none⟩, []⟩]
def r72_9 : List XLine := [⟨⟨.mv (.slot 3), some 40, none⟩, []⟩,
  ⟨⟨.bin .sub 3 .num (.slot 40) (.const (.int .i64 (.ofNat 1))), some 41, none⟩, []⟩,
  ⟨⟨.mv (.slot 41), some 3, none⟩, []⟩]
def r72_10 : List XLine := [⟨⟨.mv (.slot 0), some 43, none⟩, []⟩,
  ⟨⟨.mv (.slot 1), some 44, none⟩, []⟩,
  ⟨⟨.mv (.slot 2), some 45, none⟩, []⟩,
  ⟨⟨.call (.const (.func 88 [] [])) [(.slot 43), (.slot 44), (.slot 45)], some 46, none⟩, []⟩,
  ⟨⟨.mv (.slot 46), some 42, none⟩, []⟩,
  ⟨⟨.extract (.slot 42) 0, some 47, none⟩, []⟩,
  ⟨⟨.extract (.slot 42) 1, some 48, none⟩, []⟩,
  ⟨⟨.mv (.slot 47), some 11, none⟩, []⟩,
  ⟨⟨.mv (.slot 48), some 12, none⟩, []⟩]
def r72_11 : List XLine := [⟨⟨.mv (.slot 12), some 49, none⟩, []⟩,
  ⟨⟨.bin .eql 150 .num (.slot 49) (.const (.int .i64 (.ofNat 2))), some 50, none⟩, []⟩]
def r72_12 : List XLine := [⟨⟨.mv (.slot 0), some 51, none⟩, []⟩,
  ⟨⟨.mv (.slot 1), some 52, none⟩, []⟩,
  ⟨⟨.mv (.slot 2), some 53, none⟩, []⟩,
  ⟨⟨.call (.const (.func 89 [] [])) [(.slot 51), (.slot 52), (.slot 53)], some 54, none⟩, []⟩]
def r72_13 : List XLine := [⟨⟨.mv (.slot 2), some 55, none⟩, []⟩,
  ⟨⟨.bin .sub 3 .num (.slot 55) (.const (.int .i64 (.ofNat 1))), some 56, none⟩, []⟩,
  ⟨⟨.mv (.slot 11), some 57, none⟩, []⟩,
  ⟨⟨.mv (.slot 1), some 58, none⟩, []⟩,
  ⟨⟨.bin .sub 3 .num (.slot 57) (.slot 58), some 59, none⟩, []⟩,
  ⟨⟨.bin .sub 3 .num (.slot 56) (.slot 59), some 60, none⟩, []⟩,
  ⟨⟨.mv (.slot 60), some 11, none⟩, []⟩]
def r72_14 : List XLine := [⟨⟨.mv (.const (.int .i64 (.ofNat 1))), some 12, none⟩, []⟩]
def r72_15 : List XLine := [⟨⟨.mv (.slot 8), some 61, none⟩, []⟩,
  ⟨⟨.mv (.slot 61), some 62, none⟩, []⟩,
  ⟨⟨.mv (.slot 9), some 63, some (62, true)⟩, []⟩,
  ⟨⟨.pick (.slot 62) (.slot 63) (.const (.bool false)), some 64, none⟩, []⟩,
  ⟨⟨.mv (.slot 64), some 65, none⟩, []⟩,
  ⟨⟨.mv (.slot 12), some 66, some (65, true)⟩, []⟩,
  ⟨⟨.bin .eql 150 .num (.slot 66) (.const (.int .i64 (.ofNat 1))), some 67, some (65, true)⟩, []⟩,
  ⟨⟨.pick (.slot 65) (.slot 67) (.const (.bool false)), some 68, none⟩, []⟩]
def r72_16 : List XLine := [⟨⟨.mv (.slot 0), some 69, none⟩, []⟩,
  ⟨⟨.mv (.slot 1), some 70, none⟩, []⟩,
  ⟨⟨.mv (.slot 2), some 71, none⟩, []⟩,
  ⟨⟨.call (.const (.func 90 [] [])) [(.slot 69), (.slot 70), (.slot 71)], some 72, none⟩, []⟩]
def r72_17 : List XLine := [⟨⟨.mv (.slot 1), some 73, none⟩, []⟩,
  ⟨⟨.bin .gtr 3 .num (.slot 73) (.const (.int .i64 (.ofNat 0))), some 74, none⟩, []⟩,
  ⟨⟨.mv (.slot 74), some 75, none⟩, []⟩,
  ⟨⟨.mv (.slot 0), some 76, some (75, true)⟩, []⟩,
  ⟨⟨.mv (.slot 1), some 77, some (75, true)⟩, []⟩,
  ⟨⟨.bin .sub 3 .num (.slot 77) (.const (.int .i64 (.ofNat 1))), some 78, some (75, true)⟩, []⟩,
  ⟨⟨.iaddr 1 (.slot 76) (.slot 78), some 79, some (75, true)⟩, []⟩,
  ⟨⟨.load false 1 (.slot 79), some 80, some (75, true)⟩, []⟩,
  ⟨⟨.mv (.slot 0), some 81, some (75, true)⟩, []⟩,
  ⟨⟨.mv (.slot 11), some 82, some (75, true)⟩, []⟩,
  ⟨⟨.iaddr 1 (.slot 81) (.slot 82), some 83, some (75, true)⟩, []⟩,
  ⟨⟨.load false 1 (.slot 83), some 84, some (75, true)⟩, []⟩,
  ⟨⟨.call (.const (.func 91 [] [])) [(.slot 80), (.slot 84)], some 85, some (75, true)⟩, []⟩,
  ⟨⟨.un .not (.slot 85), some 86, some (75, true)⟩, []⟩,
  ⟨⟨.pick (.slot 75) (.slot 86) (.const (.bool false)), some 87, none⟩, []⟩]
def r72_18 : List XLine := [⟨⟨.mv (.slot 0), some 88, none⟩, []⟩,
  ⟨⟨.mv (.slot 1), some 89, none⟩, []⟩,
  ⟨⟨.mv (.slot 2), some 90, none⟩, []⟩,
  ⟨⟨.mv (.slot 11), some 91, none⟩, []⟩,
  ⟨⟨.call (.const (.func 92 [] [])) [(.slot 88), (.slot 89), (.slot 90), (.slot 91)], some 92, none⟩, []⟩,
  ⟨⟨.mv (.slot 92), some 13, none⟩, []⟩]
def r72_19 : List XLine := [⟨⟨.mv (.slot 13), some 93, none⟩, []⟩,
  ⟨⟨.mv (.slot 93), some 1, none⟩, []⟩]
def r72_20 : List XLine := [⟨⟨.mv (.slot 0), some 95, none⟩, []⟩,
  ⟨⟨.mv (.slot 1), some 96, none⟩, []⟩,
  ⟨⟨.mv (.slot 2), some 97, none⟩, []⟩,
  ⟨⟨.mv (.slot 11), some 98, none⟩, []⟩,
  ⟨⟨.call (.const (.func 93 [] [])) [(.slot 95), (.slot 96), (.slot 97), (.slot 98)], some 99, none⟩, []⟩,
  ⟨⟨.mv (.slot 99), some 94, none⟩, []⟩,
  ⟨⟨.extract (.slot 94) 0, some 100, none⟩, []⟩,
  ⟨⟨.extract (.slot 94) 1, some 101, none⟩, []⟩,
  ⟨⟨.mv (.slot 100), some 14, none⟩, []⟩,
  ⟨⟨.mv (.slot 101), some 15, none⟩, []⟩]
def r72_21 : List XLine := [⟨⟨.mv (.slot 15), some 102, none⟩, []⟩,
  ⟨⟨.mv (.slot 102), some 9, none⟩, []⟩]
def r72_22 : List XLine := [⟨⟨.mv (.slot 14), some 103, none⟩, []⟩,
  ⟨⟨.mv (.slot 1), some 104, none⟩, []⟩,
  ⟨⟨.bin .sub 3 .num (.slot 103) (.slot 104), some 105, none⟩, []⟩,
  ⟨⟨.mv (.slot 2), some 106, none⟩, []⟩,
  ⟨⟨.mv (.slot 14), some 107, none⟩, []⟩,
  ⟨⟨.bin .sub 3 .num (.slot 106) (.slot 107), some 108, none⟩, []⟩,
  ⟨⟨.mv (.slot 105), some 16, none⟩, []⟩,
  ⟨⟨.mv (.slot 108), some 17, none⟩, []⟩]
def r72_23 : List XLine := [⟨⟨.mv (.slot 10), some 109, none⟩, []⟩,
  ⟨⟨.bin .quo 3 .num (.slot 109) (.const (.int .i64 (.ofNat 8))), some 110, none⟩, []⟩,
  ⟨⟨.mv (.slot 110), some 18, none⟩, []⟩]
def r72_24 : List XLine := [⟨⟨.mv (.slot 16), some 111, none⟩, []⟩,
  ⟨⟨.mv (.slot 17), some 112, none⟩, []⟩,
  ⟨⟨.bin .lss 3 .num (.slot 111) (.slot 112), some 113, none⟩, []⟩]
def r72_25 : List XLine := [⟨⟨.mv (.slot 16), some 114, none⟩, []⟩,
  ⟨⟨.mv (.slot 18), some 115, none⟩, []⟩,
  ⟨⟨.bin .geq 3 .num (.slot 114) (.slot 115), some 116, none⟩, []⟩,
  ⟨⟨.mv (.slot 116), some 8, none⟩, []⟩]
def r72_26 : List XLine := [⟨⟨.mv (.slot 0), some 117, none⟩, []⟩,
  ⟨⟨.mv (.slot 1), some 118, none⟩, []⟩,
  ⟨⟨.mv (.slot 14), some 119, none⟩, []⟩,
  ⟨⟨.mv (.slot 3), some 120, none⟩, []⟩,
  ⟨⟨.call (.const (.func 72 [] [])) [(.slot 117), (.slot 118), (.slot 119), (.slot 120)], some 121, none⟩, []⟩]
def r72_27 : List XLine := [⟨⟨.mv (.slot 14), some 122, none⟩, []⟩,
  ⟨⟨.bin .add 3 .num (.slot 122) (.const (.int .i64 (.ofNat 1))), some 123, none⟩, []⟩,
  ⟨⟨.mv (.slot 123), some 1, none⟩, []⟩]
def r72_28 : List XLine := [⟨⟨.mv (.slot 17), some 124, none⟩, []⟩,
  ⟨⟨.mv (.slot 18), some 125, none⟩, []⟩,
  ⟨⟨.bin .geq 3 .num (.slot 124) (.slot 125), some 126, none⟩, []⟩,
  ⟨⟨.mv (.slot 126), some 8, none⟩, []⟩]
def r72_29 : List XLine := [⟨⟨.mv (.slot 0), some 127, none⟩, []⟩,
  ⟨⟨.mv (.slot 14), some 128, none⟩, []⟩,
  ⟨⟨.bin .add 3 .num (.slot 128) (.const (.int .i64 (.ofNat 1))), some 129, none⟩, []⟩,
  ⟨⟨.mv (.slot 2), some 130, none⟩, []⟩,
  ⟨⟨.mv (.slot 3), some 131, none⟩, []⟩,
  ⟨⟨.call (.const (.func 72 [] [])) [(.slot 127), (.slot 129), (.slot 130), (.slot 131)], some 132, none⟩, []⟩]
def r72_30 : List XLine := [⟨⟨.mv (.slot 14), some 133, none⟩, []⟩,
  ⟨⟨.mv (.slot 133), some 2, none⟩, []⟩]
def xf72 : XFunc := ⟨(.seq (.region false r72_0)
  (.seq (.region false r72_1)
  (.block 0 (.loop (.block 1 (.seq (.region false r72_2)
  (.seq (.seq (.region false r72_3)
  (.cond (.slot 23)
  (.seq (.region false r72_4)
  .ret)
  .skip))
  (.seq (.seq (.region false r72_5)
  (.cond (.slot 29)
  (.seq (.region false r72_6)
  .ret)
  .skip))
  (.seq (.seq (.region false r72_7)
  (.cond (.slot 35)
  (.seq (.region false r72_8)
  (.region false r72_9))
  .skip))
  (.seq (.region false r72_10)
  (.seq (.seq (.region false r72_11)
  (.cond (.slot 50)
  (.seq (.region false r72_12)
  (.seq (.region false r72_13)
  (.region false r72_14)))
  .skip))
  (.seq (.seq (.region false r72_15)
  (.cond (.slot 68)
  (.seq (.region false r72_16)
  (.cond (.slot 72)
  .ret
  .skip))
  .skip))
  (.seq (.seq (.region true r72_17)
  (.cond (.slot 87)
  (.seq (.region false r72_18)
  (.seq (.region false r72_19)
  (.exit 1)))
  .skip))
  (.seq (.region false r72_20)
  (.seq (.region false r72_21)
  (.seq (.region false r72_22)
  (.seq (.region false r72_23)
  (.seq (.region false r72_24)
  (.cond (.slot 113)
  (.seq (.region false r72_25)
  (.seq (.region false r72_26)
  (.region false r72_27)))
  (.seq (.region false r72_28)
  (.seq (.region false r72_29)
  (.region false r72_30)))))))))))))))))))))),
  []⟩
theorem xf72_ok : compFunc Tryz.prog Tryz.f72 = some xf72 := by kernel_rfl
/- math/bits.Len -/
def r73_0 : List XLine := [⟨⟨.mv (.const (.int .i64 (.ofNat 0))), some 2, none⟩, []⟩]
def r73_1 : List XLine := [⟨⟨.mv (.slot 0), some 3, none⟩, []⟩,
  ⟨⟨.conv .u32 (.slot 3), some 4, none⟩, []⟩,
  ⟨⟨.call (.const (.func 94 [] [])) [(.slot 4)], some 5, none⟩, []⟩,
  ⟨⟨.mv (.slot 5), some 2, none⟩, []⟩]
def r73_2 : List XLine := [⟨⟨.mv (.slot 0), some 6, none⟩, []⟩,
  ⟨⟨.call (.const (.func 95 [] [])) [(.slot 6)], some 7, none⟩, []⟩,
  ⟨⟨.mv (.slot 7), some 2, none⟩, []⟩]
def xf73 : XFunc := ⟨(.seq (.region false r73_0)
  (.seq (.cond (.const (.bool false))
  (.seq (.region false r73_1)
  .ret)
  .skip)
  (.seq (.region false r73_2)
  .ret))),
  [.tmp 2]⟩
theorem xf73_ok : compFunc Tryz.prog Tryz.f73 = some xf73 := by kernel_rfl
/- (*threshing/base.Base).remove -/
def r74_0 : List XLine := [⟨⟨.box (.slot 1), some 3, none⟩, []⟩,
  ⟨⟨.mv (.const (.int .i64 (.ofNat 0))), some 4, none⟩, []⟩]
def r74_1 : List XLine := [⟨⟨.mv (.slot 0), some 7, none⟩, []⟩,
  ⟨⟨.call (.const (.func 65 [] [])) [(.slot 7)], some 8, none⟩, []⟩]
def r74_2 : List XLine := [⟨⟨.mv (.const (.int .i64 (.ofNat 3))), some 4, none⟩, []⟩]
def r74_3 : List XLine := [⟨⟨.mv (.slot 0), some 9, none⟩, []⟩,
  ⟨⟨.nilCheck (.slot 9), some 10, none⟩, []⟩,
  ⟨⟨.faddr 1 (.slot 10), some 11, none⟩, []⟩,
  ⟨⟨.load false 1 (.slot 11), some 12, none⟩, []⟩,
  ⟨⟨.faddr 0 (.slot 3), some 13, none⟩, []⟩,
  ⟨⟨.load false 1 (.slot 13), some 14, none⟩, []⟩,
  ⟨⟨.delete .i64 (.slot 12) (.slot 14), none, none⟩, []⟩]
def r74_4 : List XLine := [⟨⟨.mv (.slot 0), some 15, none⟩, []⟩,
  ⟨⟨.nilCheck (.slot 15), some 16, none⟩, []⟩,
  ⟨⟨.faddr 3 (.slot 16), some 17, none⟩, []⟩,
  ⟨⟨.load false 1 (.slot 17), some 18, none⟩, []⟩,
  ⟨⟨.faddr 0 (.slot 3), some 19, none⟩, []⟩,
  ⟨⟨.load false 1 (.slot 19), some 20, none⟩, []⟩,
  ⟨⟨.delete .i64 (.slot 18) (.slot 20), none, none⟩, []⟩]
def r74_5 : List XLine := [⟨⟨.faddr 1 (.slot 3), some 21, none⟩, []⟩,
  ⟨⟨.load false 1 (.slot 21), some 22, none⟩, []⟩,
  ⟨⟨.len .slice (.slot 22), some 23, none⟩, []⟩,
  ⟨⟨.mv (.const (.int .i64 (.ofNat 0))), some 24, none⟩, []⟩]
def r74_6 : List XLine := [⟨⟨.bin .lss 3 .num (.slot 24) (.slot 23), some 25, none⟩, []⟩]
def r74_7 : List XLine := [⟨⟨.iaddr 1 (.slot 22) (.slot 24), some 26, none⟩, []⟩,
  ⟨⟨.load false 1 (.slot 26), some 27, none⟩, []⟩,
  ⟨⟨.mv (.slot 27), some 6, none⟩, []⟩]
def r74_8 : List XLine := [⟨⟨.mv (.slot 0), some 28, none⟩, []⟩,
  ⟨⟨.nilCheck (.slot 28), some 29, none⟩, []⟩,
  ⟨⟨.faddr 2 (.slot 29), some 30, none⟩, []⟩,
  ⟨⟨.load false 1 (.slot 30), some 31, none⟩, []⟩,
  ⟨⟨.mv (.slot 6), some 32, none⟩, []⟩,
  ⟨⟨.lookup .i32 .nilm (.slot 31) (.slot 32) false, some 33, none⟩, []⟩,
  ⟨⟨.faddr 0 (.slot 3), some 34, none⟩, []⟩,
  ⟨⟨.load false 1 (.slot 34), some 35, none⟩, []⟩,
  ⟨⟨.delete .i64 (.slot 33) (.slot 35), none, none⟩, []⟩]
def r74_9 : List XLine := [⟨⟨.bin .add 3 .num (.slot 24) (.const (.int .i64 (.ofNat 1))), some 36, none⟩, []⟩,
  ⟨⟨.mv (.slot 36), some 24, none⟩, []⟩]
def r74_10 : List XLine := [⟨⟨.mv (.slot 0), some 37, none⟩, []⟩,
  ⟨⟨.mv (.slot 0), some 38, none⟩, []⟩,
  ⟨⟨.nilCheck (.slot 38), some 39, none⟩, []⟩,
  ⟨⟨.faddr 5 (.slot 39), some 40, none⟩, []⟩,
  ⟨⟨.load false 1 (.slot 40), some 41, none⟩, []⟩,
  ⟨⟨.mv (.slot 0), some 42, none⟩, []⟩,
  ⟨⟨.nilCheck (.slot 42), some 43, none⟩, []⟩,
  ⟨⟨.faddr 4 (.slot 43), some 44, none⟩, []⟩,
  ⟨⟨.load false 1 (.slot 44), some 45, none⟩, []⟩,
  ⟨⟨.faddr 0 (.slot 3), some 46, none⟩, []⟩,
  ⟨⟨.load false 1 (.slot 46), some 47, none⟩, []⟩,
  ⟨⟨.bslice 1 [(.int .i64 (.ofNat 0))] [(0, 1, (.slot 47))] 1, some 48, none⟩, [⟨.load false 1 (.slot 40), some 41, none⟩, ⟨.load false 1 (.slot 44), some 45, none⟩]⟩,
  ⟨⟨.build [(.int .u8 (.ofNat 0)), (.int .i64 (.ofNat 0)), .nils, .nils] [(0, 1, (.const (.int .u8 (.ofNat 2)))), (1, 1, (.slot 45)), (3, 1, (.slot 48))], some 49, none⟩, []⟩,
  ⟨⟨.bslice 4 [(.int .u8 (.ofNat 0)), (.int .i64 (.ofNat 0)), .nils, .nils] [(0, 4, (.slot 49))] 1, some 50, none⟩, [⟨.load false 1 (.slot 40), some 41, none⟩]⟩,
  ⟨⟨.append 4 64 (.slot 41) (.slot 50), some 51, none⟩, []⟩,
  ⟨⟨.nilCheck (.slot 37), some 52, none⟩, []⟩,
  ⟨⟨.faddr 5 (.slot 52), some 53, none⟩, []⟩,
  ⟨⟨.store 1 (.slot 53) (.slot 51), none, none⟩, []⟩]
def r74_11 : List XLine := [⟨⟨.mv (.const (.int .i64 (.ofNat 0))), some 4, none⟩, []⟩]
def xf74 : XFunc := ⟨(.seq (.region false r74_0)
  (.seq (.seq (.region false r74_1)
  (.cond (.slot 8)
  (.seq (.region false r74_2)
  .ret)
  .skip))
  (.seq (.region true r74_3)
  (.seq (.region true r74_4)
  (.seq (.seq (.region false r74_5)
  (.block 0 (.loop (.seq (.region false r74_6)
  (.seq (.cond (.slot 25)
  .skip
  (.exit 0))
  (.seq (.block 1 (.seq (.region false r74_7)
  (.region true r74_8)))
  (.region false r74_9)))))))
  (.seq (.region true r74_10)
  (.seq (.region false r74_11)
  .ret))))))),
  [.tmp 4]⟩
theorem xf74_ok : compFunc Tryz.prog Tryz.f74 = some xf74 := by kernel_rfl
/- threshing/base.both -/
def r75_0 : List XLine := [⟨⟨.box (.slot 0), some 1, none⟩, []⟩,
  ⟨⟨.mv (.const (.bool false)), some 2, none⟩, []⟩]
def r75_1 : List XLine := [⟨⟨.load false 1 (.slot 1), some 3, none⟩, []⟩,
  ⟨⟨.mkfunc 96 [] [(.slot 1)], some 4, none⟩, []⟩,
  ⟨⟨.call (.const (.func 62 [] [])) [(.slot 3), (.slot 4)], some 5, none⟩, []⟩,
  ⟨⟨.mv (.slot 5), some 2, none⟩, []⟩]
def xf75 : XFunc := ⟨(.seq (.region false r75_0)
  (.seq (.region false r75_1)
  .ret)),
  [.tmp 2]⟩
theorem xf75_ok : compFunc Tryz.prog Tryz.f75 = some xf75 := by kernel_rfl
/- slices.Contains[threshing/api.Clause,threshing/api.Lit] -/
def r76_0 : List XLine := [⟨⟨.mv (.const (.bool false)), some 4, none⟩, []⟩]
def r76_1 : List XLine := [⟨⟨.mv (.slot 0), some 5, none⟩, []⟩,
  ⟨⟨.mv (.slot 1), some 6, none⟩, []⟩,
  ⟨⟨.call (.const (.func 97 [] [])) [(.slot 5), (.slot 6)], some 7, none⟩, []⟩,
  ⟨⟨.bin .geq 3 .num (.slot 7) (.const (.int .i64 (.ofNat 0))), some 8, none⟩, []⟩,
  ⟨⟨.mv (.slot 8), some 4, none⟩, []⟩]
def xf76 : XFunc := ⟨(.seq (.region false r76_0)
  (.seq (.region false r76_1)
  .ret)),
  [.tmp 4]⟩
theorem xf76_ok : compFunc Tryz.prog Tryz.f76 = some xf76 := by kernel_rfl
/- slices.pdqsortCmpFunc[threshing/api.Lit] -/
def r77_0 : List XLine := [⟨⟨.mv (.const (.bool true)), some 10, none⟩, []⟩]
def r77_1 : List XLine := [⟨⟨.mv (.const (.bool true)), some 11, none⟩, []⟩]
def r77_2 : List XLine := [⟨⟨.mv (.slot 2), some 21, none⟩, []⟩,
  ⟨⟨.mv (.slot 1), some 22, none⟩, []⟩,
  ⟨⟨.bin .sub 3 .num (.slot 21) (.slot 22), some 23, none⟩, []⟩,
  ⟨⟨.mv (.slot 23), some 12, none⟩, []⟩]
def r77_3 : List XLine := [⟨⟨.mv (.slot 12), some 24, none⟩, []⟩,
  ⟨⟨.bin .leq 3 .num (.slot 24) (.const (.int .i64 (.ofNat 12))), some 25, none⟩, []⟩]
def r77_4 : List XLine := [⟨⟨.mv (.slot 0), some 26, none⟩, []⟩,
  ⟨⟨.mv (.slot 1), some 27, none⟩, []⟩,
  ⟨⟨.mv (.slot 2), some 28, none⟩, []⟩,
  ⟨⟨.mv (.slot 4), some 29, none⟩, []⟩,
  ⟨⟨.call (.const (.func 98 [] [])) [(.slot 26), (.slot 27), (.slot 28), (.slot 29)], some 30, none⟩, []⟩]
def r77_5 : List XLine := [⟨⟨.mv (.slot 3), some 31, none⟩, []⟩,
  ⟨⟨.bin .eql 3 .num (.slot 31) (.const (.int .i64 (.ofNat 0))), some 32, none⟩, []⟩]
def r77_6 : List XLine := [⟨⟨.mv (.slot 0), some 33, none⟩, []⟩,
  ⟨⟨.mv (.slot 1), some 34, none⟩, []⟩,
  ⟨⟨.mv (.slot 2), some 35, none⟩, []⟩,
  ⟨⟨.mv (.slot 4), some 36, none⟩, []⟩,
  ⟨⟨.call (.const (.func 99 [] [])) [(.slot 33), (.slot 34), (.slot 35), (.slot 36)], some 37, none⟩, []⟩]
def r77_7 : List XLine := [⟨⟨.mv (.slot 10), some 38, none⟩, []⟩,
  ⟨⟨.un .not (.slot 38), some 39, none⟩, []⟩]
def r77_8 : List XLine := [⟨⟨.mv (.slot 0), some 40, none⟩, []⟩,
  ⟨⟨.mv (.slot 1), some 41, none⟩, []⟩,
  ⟨⟨.mv (.slot 2), some 42, none⟩, []⟩,
  ⟨⟨.mv (.slot 4), some 43, none⟩, []⟩,
  ⟨⟨.call (.const (.func 100 [] [])) [(.slot 40), (.slot 41), (.slot 42), (.slot 43)], some 44, none⟩, []⟩]
def r77_9 : List XLine := [⟨⟨.mv (.slot 3), some 45, none⟩, []⟩,
  ⟨⟨.bin .sub 3 .num (.slot 45) (.const (.int .i64 (.ofNat 1))), some 46, none⟩, []⟩,
  ⟨⟨.mv (.slot 46), some 3, none⟩, []⟩]
def r77_10 : List XLine := [⟨⟨.mv (.slot 0), some 48, none⟩, []⟩,
  ⟨⟨.mv (.slot 1), some 49, none⟩, []⟩,
  ⟨⟨.mv (.slot 2), some 50, none⟩, []⟩,
  ⟨⟨.mv (.slot 4), some 51, none⟩, []⟩,
  ⟨⟨.call (.const (.func 101 [] [])) [(.slot 48), (.slot 49), (.slot 50), (.slot 51)], some 52, none⟩, []⟩,
  ⟨⟨.mv (.slot 52), some 47, none⟩, []⟩,
  ⟨⟨.extract (.slot 47) 0, some 53, none⟩, []⟩,
  ⟨⟨.extract (.slot 47) 1, some 54, none⟩, []⟩,
  ⟨⟨.mv (.slot 53), some 13, none⟩, []⟩,
  ⟨⟨.mv (.slot 54), some 14, none⟩, []⟩]
def r77_11 : List XLine := [⟨⟨.mv (.slot 14), some 55, none⟩, []⟩,
  ⟨⟨.bin .eql 150 .num (.slot 55) (.const (.int .i64 (.ofNat 2))), some 56, none⟩, []⟩]
def r77_12 : List XLine := [⟨⟨.mv (.slot 0), some 57, none⟩, []⟩,
  ⟨⟨.mv (.slot 1), some 58, none⟩, []⟩,
  ⟨⟨.mv (.slot 2), some 59, none⟩, []⟩,
  ⟨⟨.mv (.slot 4), some 60, none⟩, []⟩,
  ⟨⟨.call (.const (.func 102 [] [])) [(.slot 57), (.slot 58), (.slot 59), (.slot 60)], some 61, none⟩, []⟩]
def r77_13 : List XLine := [⟨⟨.mv (.slot 2), some 62, none⟩, []⟩,
  ⟨⟨.bin .sub 3 .num (.slot 62) (.const (.int .i64 (.ofNat 1))), some 63, none⟩, []⟩,
  ⟨⟨.mv (.slot 13), some 64, none⟩, []⟩,
  ⟨⟨.mv (.slot 1), some 65, none⟩, []⟩,
  ⟨⟨.bin .sub 3 .num (.slot 64) (.slot 65), some 66, none⟩, []⟩,
  ⟨⟨.bin .sub 3 .num (.slot 63) (.slot 66), some 67, none⟩, []⟩,
  ⟨⟨.mv (.slot 67), some 13, none⟩, []⟩]
def r77_14 : List XLine := [⟨⟨.mv (.const (.int .i64 (.ofNat 1))), some 14, none⟩, []⟩]
def r77_15 : List XLine := [⟨⟨.mv (.slot 10), some 68, none⟩, []⟩,
  ⟨⟨.mv (.slot 68), some 69, none⟩, []⟩,
  ⟨⟨.mv (.slot 11), some 70, some (69, true)⟩, []⟩,
  ⟨⟨.pick (.slot 69) (.slot 70) (.const (.bool false)), some 71, none⟩, []⟩,
  ⟨⟨.mv (.slot 71), some 72, none⟩, []⟩,
  ⟨⟨.mv (.slot 14), some 73, some (72, true)⟩, []⟩,
  ⟨⟨.bin .eql 150 .num (.slot 73) (.const (.int .i64 (.ofNat 1))), some 74, some (72, true)⟩, []⟩,
  ⟨⟨.pick (.slot 72) (.slot 74) (.const (.bool false)), some 75, none⟩, []⟩]
def r77_16 : List XLine := [⟨⟨.mv (.slot 0), some 76, none⟩, []⟩,
  ⟨⟨.mv (.slot 1), some 77, none⟩, []⟩,
  ⟨⟨.mv (.slot 2), some 78, none⟩, []⟩,
  ⟨⟨.mv (.slot 4), some 79, none⟩, []⟩,
  ⟨⟨.call (.const (.func 103 [] [])) [(.slot 76), (.slot 77), (.slot 78), (.slot 79)], some 80, none⟩, []⟩]
def r77_17 : List XLine := [⟨⟨.mv (.slot 1), some 81, none⟩, []⟩,
  ⟨⟨.bin .gtr 3 .num (.slot 81) (.const (.int .i64 (.ofNat 0))), some 82, none⟩, []⟩,
  ⟨⟨.mv (.slot 82), some 83, none⟩, []⟩,
  ⟨⟨.mv (.slot 4), some 84, some (83, true)⟩, []⟩,
  ⟨⟨.mv (.slot 0), some 85, some (83, true)⟩, []⟩,
  ⟨⟨.mv (.slot 1), some 86, some (83, true)⟩, []⟩,
  ⟨⟨.bin .sub 3 .num (.slot 86) (.const (.int .i64 (.ofNat 1))), some 87, some (83, true)⟩, []⟩,
  ⟨⟨.iaddr 1 (.slot 85) (.slot 87), some 88, some (83, true)⟩, []⟩,
  ⟨⟨.load false 1 (.slot 88), some 89, some (83, true)⟩, []⟩,
  ⟨⟨.mv (.slot 0), some 90, some (83, true)⟩, []⟩,
  ⟨⟨.mv (.slot 13), some 91, some (83, true)⟩, []⟩,
  ⟨⟨.iaddr 1 (.slot 90) (.slot 91), some 92, some (83, true)⟩, []⟩,
  ⟨⟨.load false 1 (.slot 92), some 93, some (83, true)⟩, []⟩,
  ⟨⟨.call (.slot 84) [(.slot 89), (.slot 93)], some 94, some (83, true)⟩, []⟩,
  ⟨⟨.bin .lss 3 .num (.slot 94) (.const (.int .i64 (.ofNat 0))), some 95, some (83, true)⟩, []⟩,
  ⟨⟨.un .not (.slot 95), some 96, some (83, true)⟩, []⟩,
  ⟨⟨.pick (.slot 83) (.slot 96) (.const (.bool false)), some 97, none⟩, []⟩]
def r77_18 : List XLine := [⟨⟨.mv (.slot 0), some 98, none⟩, []⟩,
  ⟨⟨.mv (.slot 1), some 99, none⟩, []⟩,
  ⟨⟨.mv (.slot 2), some 100, none⟩, []⟩,
  ⟨⟨.mv (.slot 13), some 101, none⟩, []⟩,
  ⟨⟨.mv (.slot 4), some 102, none⟩, []⟩,
  ⟨⟨.call (.const (.func 104 [] [])) [(.slot 98), (.slot 99), (.slot 100), (.slot 101), (.slot 102)], some 103, none⟩, []⟩,
  ⟨⟨.mv (.slot 103), some 15, none⟩, []⟩]
def r77_19 : List XLine := [⟨⟨.mv (.slot 15), some 104, none⟩, []⟩,
  ⟨⟨.mv (.slot 104), some 1, none⟩, []⟩]
def r77_20 : List XLine := [⟨⟨.mv (.slot 0), some 106, none⟩, []⟩,
  ⟨⟨.mv (.slot 1), some 107, none⟩, []⟩,
  ⟨⟨.mv (.slot 2), some 108, none⟩, []⟩,
  ⟨⟨.mv (.slot 13), some 109, none⟩, []⟩,
  ⟨⟨.mv (.slot 4), some 110, none⟩, []⟩,
  ⟨⟨.call (.const (.func 105 [] [])) [(.slot 106), (.slot 107), (.slot 108), (.slot 109), (.slot 110)], some 111, none⟩, []⟩,
  ⟨⟨.mv (.slot 111), some 105, none⟩, []⟩,
  ⟨⟨.extract (.slot 105) 0, some 112, none⟩, []⟩,
  ⟨⟨.extract (.slot 105) 1, some 113, none⟩, []⟩,
  ⟨⟨.mv (.slot 112), some 16, none⟩, []⟩,
  ⟨⟨.mv (.slot 113), some 17, none⟩, []⟩]
def r77_21 : List XLine := [⟨⟨.mv (.slot 17), some 114, none⟩, []⟩,
  ⟨⟨.mv (.slot 114), some 11, none⟩, []⟩]
def r77_22 : List XLine := [⟨⟨.mv (.slot 16), some 115, none⟩, []⟩,
  ⟨⟨.mv (.slot 1), some 116, none⟩, []⟩,
  ⟨⟨.bin .sub 3 .num (.slot 115) (.slot 116), some 117, none⟩, []⟩,
  ⟨⟨.mv (.slot 2), some 118, none⟩, []⟩,
  ⟨⟨.mv (.slot 16), some 119, none⟩, []⟩,
  ⟨⟨.bin .sub 3 .num (.slot 118) (.slot 119), some 120, none⟩, []⟩,
  ⟨⟨.mv (.slot 117), some 18, none⟩, []⟩,
  ⟨⟨.mv (.slot 120), some 19, none⟩, []⟩]
def r77_23 : List XLine := [⟨⟨.mv (.slot 12), some 121, none⟩, []⟩,
  ⟨⟨.bin .quo 3 .num (.slot 121) (.const (.int .i64 (.ofNat 8))), some 122, none⟩, []⟩,
  ⟨⟨.mv (.slot 122), some 20, none⟩, []⟩]
def r77_24 : List XLine := [⟨⟨.mv (.slot 18), some 123, none⟩, []⟩,
  ⟨⟨.mv (.slot 19), some 124, none⟩, []⟩,
  ⟨⟨.bin .lss 3 .num (.slot 123) (.slot 124), some 125, none⟩, []⟩]
def r77_25 : List XLine := [⟨⟨.mv (.slot 18), some 126, none⟩, []⟩,
  ⟨⟨.mv (.slot 20), some 127, none⟩, []⟩,
  ⟨⟨.bin .geq 3 .num (.slot 126) (.slot 127), some 128, none⟩, []⟩,
  ⟨⟨.mv (.slot 128), some 10, none⟩, []⟩]
def r77_26 : List XLine := [⟨⟨.mv (.slot 0), some 129, none⟩, []⟩,
  ⟨⟨.mv (.slot 1), some 130, none⟩, []⟩,
  ⟨⟨.mv (.slot 16), some 131, none⟩, []⟩,
  ⟨⟨.mv (.slot 3), some 132, none⟩, []⟩,
  ⟨⟨.mv (.slot 4), some 133, none⟩, []⟩,
  ⟨⟨.call (.const (.func 77 [] [])) [(.slot 129), (.slot 130), (.slot 131), (.slot 132), (.slot 133)], some 134, none⟩, []⟩]
def r77_27 : List XLine := [⟨⟨.mv (.slot 16), some 135, none⟩, []⟩,
  ⟨⟨.bin .add 3 .num (.slot 135) (.const (.int .i64 (.ofNat 1))), some 136, none⟩, []⟩,
  ⟨⟨.mv (.slot 136), some 1, none⟩, []⟩]
def r77_28 : List XLine := [⟨⟨.mv (.slot 19), some 137, none⟩, []⟩,
  ⟨⟨.mv (.slot 20), some 138, none⟩, []⟩,
  ⟨⟨.bin .geq 3 .num (.slot 137) (.slot 138), some 139, none⟩, []⟩,
  ⟨⟨.mv (.slot 139), some 10, none⟩, []⟩]
def r77_29 : List XLine := [⟨⟨.mv (.slot 0), some 140, none⟩, []⟩,
  ⟨⟨.mv (.slot 16), some 141, none⟩, []⟩,
  ⟨⟨.bin .add 3 .num (.slot 141) (.const (.int .i64 (.ofNat 1))), some 142, none⟩, []⟩,
  ⟨⟨.mv (.slot 2), some 143, none⟩, []⟩,
  ⟨⟨.mv (.slot 3), some 144, none⟩, []⟩,
  ⟨⟨.mv (.slot 4), some 145, none⟩, []⟩,
  ⟨⟨.call (.const (.func 77 [] [])) [(.slot 140), (.slot 142), (.slot 143), (.slot 144), (.slot 145)], some 146, none⟩, []⟩]
def r77_30 : List XLine := [⟨⟨.mv (.slot 16), some 147, none⟩, []⟩,
  ⟨⟨.mv (.slot 147), some 2, none⟩, []⟩]
def xf77 : XFunc := ⟨(.seq (.region false r77_0)
  (.seq (.region false r77_1)
  (.block 0 (.loop (.block 1 (.seq (.region false r77_2)
  (.seq (.seq (.region false r77_3)
  (.cond (.slot 25)
  (.seq (.region false r77_4)
  .ret)
  .skip))
  (.seq (.seq (.region false r77_5)
  (.cond (.slot 32)
  (.seq (.region false r77_6)
  .ret)
  .skip))
  (.seq (.seq (.region false r77_7)
  (.cond (.slot 39)
  (.seq (.region false r77_8)
  (.region false r77_9))
  .skip))
  (.seq (.region false r77_10)
  (.seq (.seq (.region false r77_11)
  (.cond (.slot 56)
  (.seq (.region false r77_12)
  (.seq (.region false r77_13)
  (.region false r77_14)))
  .skip))
  (.seq (.seq (.region false r77_15)
  (.cond (.slot 75)
  (.seq (.region false r77_16)
  (.cond (.slot 80)
  .ret
  .skip))
  .skip))
  (.seq (.seq (.region true r77_17)
  (.cond (.slot 97)
  (.seq (.region false r77_18)
  (.seq (.region false r77_19)
  (.exit 1)))
  .skip))
  (.seq (.region false r77_20)
  (.seq (.region false r77_21)
  (.seq (.region false r77_22)
  (.seq (.region false r77_23)
  (.seq (.region false r77_24)
  (.cond (.slot 125)
  (.seq (.region false r77_25)
  (.seq (.region false r77_26)
  (.region false r77_27)))
  (.seq (.region false r77_28)
  (.seq (.region false r77_29)
  (.region false r77_30)))))))))))))))))))))),
  []⟩
theorem xf77_ok : compFunc Tryz.prog Tryz.f77 = some xf77 := by kernel_rfl
/- cmp.Or[int] -/
def r78_0 : List XLine := [⟨⟨.mv (.const (.int .i64 (.ofNat 0))), some 2, none⟩, []⟩]
def r78_1 : List XLine := [⟨⟨.mv (.const (.int .i64 (.ofNat 0))), some 3, none⟩, []⟩]
def r78_2 : List XLine := [⟨⟨.mv (.slot 0), some 6, none⟩, []⟩,
  ⟨⟨.len .slice (.slot 6), some 7, none⟩, []⟩,
  ⟨⟨.mv (.const (.int .i64 (.ofNat 0))), some 8, none⟩, []⟩]
def r78_3 : List XLine := [⟨⟨.bin .lss 3 .num (.slot 8) (.slot 7), some 9, none⟩, []⟩]
def r78_4 : List XLine := [⟨⟨.iaddr 1 (.slot 6) (.slot 8), some 10, none⟩, []⟩,
  ⟨⟨.load false 1 (.slot 10), some 11, none⟩, []⟩,
  ⟨⟨.mv (.slot 11), some 5, none⟩, []⟩]
def r78_5 : List XLine := [⟨⟨.mv (.slot 5), some 12, none⟩, []⟩,
  ⟨⟨.mv (.slot 3), some 13, none⟩, []⟩,
  ⟨⟨.bin .neq 3 .num (.slot 12) (.slot 13), some 14, none⟩, []⟩]
def r78_6 : List XLine := [⟨⟨.mv (.slot 5), some 15, none⟩, []⟩,
  ⟨⟨.mv (.slot 15), some 2, none⟩, []⟩]
def r78_7 : List XLine := [⟨⟨.bin .add 3 .num (.slot 8) (.const (.int .i64 (.ofNat 1))), some 16, none⟩, []⟩,
  ⟨⟨.mv (.slot 16), some 8, none⟩, []⟩]
def r78_8 : List XLine := [⟨⟨.mv (.slot 3), some 17, none⟩, []⟩,
  ⟨⟨.mv (.slot 17), some 2, none⟩, []⟩]
def xf78 : XFunc := ⟨(.seq (.region false r78_0)
  (.seq (.region false r78_1)
  (.seq (.seq (.region false r78_2)
  (.block 0 (.loop (.seq (.region false r78_3)
  (.seq (.cond (.slot 9)
  .skip
  (.exit 0))
  (.seq (.block 1 (.seq (.region false r78_4)
  (.seq (.region false r78_5)
  (.cond (.slot 14)
  (.seq (.region false r78_6)
  .ret)
  .skip))))
  (.region false r78_7)))))))
  (.seq (.region false r78_8)
  .ret)))),
  [.tmp 2]⟩
theorem xf78_ok : compFunc Tryz.prog Tryz.f78 = some xf78 := by kernel_rfl
/- cmp.Compare[int] -/
def r79_0 : List XLine := [⟨⟨.mv (.const (.int .i64 (.ofNat 0))), some 4, none⟩, []⟩]
def r79_1 : List XLine := [⟨⟨.mv (.slot 0), some 7, none⟩, []⟩,
  ⟨⟨.call (.const (.func 106 [] [])) [(.slot 7)], some 8, none⟩, []⟩,
  ⟨⟨.mv (.slot 8), some 5, none⟩, []⟩]
def r79_2 : List XLine := [⟨⟨.mv (.slot 1), some 9, none⟩, []⟩,
  ⟨⟨.call (.const (.func 106 [] [])) [(.slot 9)], some 10, none⟩, []⟩,
  ⟨⟨.mv (.slot 10), some 6, none⟩, []⟩]
def r79_3 : List XLine := [⟨⟨.mv (.slot 5), some 11, none⟩, []⟩]
def r79_4 : List XLine := [⟨⟨.mv (.slot 6), some 12, none⟩, []⟩]
def r79_5 : List XLine := [⟨⟨.mv (.const (.int .i64 (.ofNat 0))), some 4, none⟩, []⟩]
def r79_6 : List XLine := [⟨⟨.mv (.const (.int .i64 (.negSucc 0))), some 4, none⟩, []⟩]
def r79_7 : List XLine := [⟨⟨.mv (.slot 6), some 13, none⟩, []⟩]
def r79_8 : List XLine := [⟨⟨.mv (.const (.int .i64 (.ofNat 1))), some 4, none⟩, []⟩]
def r79_9 : List XLine := [⟨⟨.mv (.slot 0), some 14, none⟩, []⟩,
  ⟨⟨.mv (.slot 1), some 15, none⟩, []⟩,
  ⟨⟨.bin .lss 3 .num (.slot 14) (.slot 15), some 16, none⟩, []⟩]
def r79_10 : List XLine := [⟨⟨.mv (.const (.int .i64 (.negSucc 0))), some 4, none⟩, []⟩]
def r79_11 : List XLine := [⟨⟨.mv (.slot 0), some 17, none⟩, []⟩,
  ⟨⟨.mv (.slot 1), some 18, none⟩, []⟩,
  ⟨⟨.bin .gtr 3 .num (.slot 17) (.slot 18), some 19, none⟩, []⟩]
def r79_12 : List XLine := [⟨⟨.mv (.const (.int .i64 (.ofNat 1))), some 4, none⟩, []⟩]
def r79_13 : List XLine := [⟨⟨.mv (.const (.int .i64 (.ofNat 0))), some 4, none⟩, []⟩]
def xf79 : XFunc := ⟨(.seq (.region false r79_0)
  (.seq (.region false r79_1)
  (.seq (.region false r79_2)
  (.seq (.seq (.region false r79_3)
  (.cond (.slot 11)
  (.seq (.seq (.region false r79_4)
  (.cond (.slot 12)
  (.seq (.region false r79_5)
  .ret)
  .skip))
  (.seq (.region false r79_6)
  .ret))
  .skip))
  (.seq (.seq (.region false r79_7)
  (.cond (.slot 13)
  (.seq (.region false r79_8)
  .ret)
  .skip))
  (.seq (.seq (.region false r79_9)
  (.cond (.slot 16)
  (.seq (.region false r79_10)
  .ret)
  .skip))
  (.seq (.seq (.region false r79_11)
  (.cond (.slot 19)
  (.seq (.region false r79_12)
  .ret)
  .skip))
  (.seq (.region false r79_13)
  .ret)))))))),
  [.tmp 4]⟩
theorem xf79_ok : compFunc Tryz.prog Tryz.f79 = some xf79 := by kernel_rfl
/- cmp.Compare[threshing/api.Lit] -/
def r80_0 : List XLine := [⟨⟨.mv (.const (.int .i64 (.ofNat 0))), some 4, none⟩, []⟩]
def r80_1 : List XLine := [⟨⟨.mv (.slot 0), some 7, none⟩, []⟩,
  ⟨⟨.call (.const (.func 107 [] [])) [(.slot 7)], some 8, none⟩, []⟩,
  ⟨⟨.mv (.slot 8), some 5, none⟩, []⟩]
def r80_2 : List XLine := [⟨⟨.mv (.slot 1), some 9, none⟩, []⟩,
  ⟨⟨.call (.const (.func 107 [] [])) [(.slot 9)], some 10, none⟩, []⟩,
  ⟨⟨.mv (.slot 10), some 6, none⟩, []⟩]
def r80_3 : List XLine := [⟨⟨.mv (.slot 5), some 11, none⟩, []⟩]
def r80_4 : List XLine := [⟨⟨.mv (.slot 6), some 12, none⟩, []⟩]
def r80_5 : List XLine := [⟨⟨.mv (.const (.int .i64 (.ofNat 0))), some 4, none⟩, []⟩]
def r80_6 : List XLine := [⟨⟨.mv (.const (.int .i64 (.negSucc 0))), some 4, none⟩, []⟩]
def r80_7 : List XLine := [⟨⟨.mv (.slot 6), some 13, none⟩, []⟩]
def r80_8 : List XLine := [⟨⟨.mv (.const (.int .i64 (.ofNat 1))), some 4, none⟩, []⟩]
def r80_9 : List XLine := [⟨⟨.mv (.slot 0), some 14, none⟩, []⟩,
  ⟨⟨.mv (.slot 1), some 15, none⟩, []⟩,
  ⟨⟨.bin .lss 24 .num (.slot 14) (.slot 15), some 16, none⟩, []⟩]
def r80_10 : List XLine := [⟨⟨.mv (.const (.int .i64 (.negSucc 0))), some 4, none⟩, []⟩]
def r80_11 : List XLine := [⟨⟨.mv (.slot 0), some 17, none⟩, []⟩,
  ⟨⟨.mv (.slot 1), some 18, none⟩, []⟩,
  ⟨⟨.bin .gtr 24 .num (.slot 17) (.slot 18), some 19, none⟩, []⟩]
def r80_12 : List XLine := [⟨⟨.mv (.const (.int .i64 (.ofNat 1))), some 4, none⟩, []⟩]
def r80_13 : List XLine := [⟨⟨.mv (.const (.int .i64 (.ofNat 0))), some 4, none⟩, []⟩]
def xf80 : XFunc := ⟨(.seq (.region false r80_0)
  (.seq (.region false r80_1)
  (.seq (.region false r80_2)
  (.seq (.seq (.region false r80_3)
  (.cond (.slot 11)
  (.seq (.seq (.region false r80_4)
  (.cond (.slot 12)
  (.seq (.region false r80_5)
  .ret)
  .skip))
  (.seq (.region false r80_6)
  .ret))
  .skip))
  (.seq (.seq (.region false r80_7)
  (.cond (.slot 13)
  (.seq (.region false r80_8)
  .ret)
  .skip))
  (.seq (.seq (.region false r80_9)
  (.cond (.slot 16)
  (.seq (.region false r80_10)
  .ret)
  .skip))
  (.seq (.seq (.region false r80_11)
  (.cond (.slot 19)
  (.seq (.region false r80_12)
  .ret)
  .skip))
  (.seq (.region false r80_13)
  .ret)))))))),
  [.tmp 4]⟩
theorem xf80_ok : compFunc Tryz.prog Tryz.f80 = some xf80 := by kernel_rfl
/- container/heap.up -/
def r81_0 : List XLine := [⟨⟨.mv (.slot 1), some 5, none⟩, []⟩,
  ⟨⟨.bin .sub 3 .num (.slot 5) (.const (.int .i64 (.ofNat 1))), some 6, none⟩, []⟩,
  ⟨⟨.bin .quo 3 .num (.slot 6) (.const (.int .i64 (.ofNat 2))), some 7, none⟩, []⟩,
  ⟨⟨.mv (.slot 7), some 4, none⟩, []⟩]
def r81_1 : List XLine := [⟨⟨.mv (.slot 4), some 8, none⟩, []⟩,
  ⟨⟨.mv (.slot 1), some 9, none⟩, []⟩,
  ⟨⟨.bin .eql 3 .num (.slot 8) (.slot 9), some 10, none⟩, []⟩,
  ⟨⟨.mv (.slot 10), some 11, none⟩, []⟩,
  ⟨⟨.mv (.slot 0), some 12, some (11, false)⟩, []⟩,
  ⟨⟨.mv (.slot 1), some 13, some (11, false)⟩, []⟩,
  ⟨⟨.mv (.slot 4), some 14, some (11, false)⟩, []⟩,
  ⟨⟨.invoke (.slot 12) [(89, 138, none), (93, 138, some (false, 1))] [(.slot 13), (.slot 14)], some 15, some (11, false)⟩, []⟩,
  ⟨⟨.un .not (.slot 15), some 16, some (11, false)⟩, []⟩,
  ⟨⟨.pick (.slot 11) (.const (.bool true)) (.slot 16), some 17, none⟩, []⟩]
def r81_2 : List XLine := [⟨⟨.mv (.slot 0), some 18, none⟩, []⟩,
  ⟨⟨.mv (.slot 4), some 19, none⟩, []⟩,
  ⟨⟨.mv (.slot 1), some 20, none⟩, []⟩,
  ⟨⟨.invoke (.slot 18) [(89, 139, none), (93, 139, some (false, 1))] [(.slot 19), (.slot 20)], some 21, none⟩, []⟩]
def r81_3 : List XLine := [⟨⟨.mv (.slot 4), some 22, none⟩, []⟩,
  ⟨⟨.mv (.slot 22), some 1, none⟩, []⟩]
def xf81 : XFunc := ⟨(.block 0 (.loop (.block 1 (.seq (.region false r81_0)
  (.seq (.seq (.region false r81_1)
  (.cond (.slot 17)
  (.exit 0)
  .skip))
  (.seq (.region false r81_2)
  (.region false r81_3))))))),
  []⟩
theorem xf81_ok : compFunc Tryz.prog Tryz.f81 = some xf81 := by kernel_rfl
/- (*threshing/base.Base).right$1 -/
def r82_0 : List XLine := [⟨⟨.mv (.const (.bool false)), some 3, none⟩, []⟩]
def r82_1 : List XLine := [⟨⟨.mv (.slot 0), some 4, none⟩, []⟩,
  ⟨⟨.bin .eql 24 .num (.slot 4) (.const (.int .i32 (.ofNat 0))), some 5, none⟩, []⟩,
  ⟨⟨.mv (.slot 5), some 6, none⟩, []⟩,
  ⟨⟨.mv (.slot 0), some 7, some (6, false)⟩, []⟩,
  ⟨⟨.load false 1 (.slot 1), some 9, some (6, false)⟩, []⟩,
  ⟨⟨.nilCheck (.slot 9), some 10, some (6, false)⟩, []⟩,
  ⟨⟨.faddr 0 (.slot 10), some 11, some (6, false)⟩, []⟩,
  ⟨⟨.load false 1 (.slot 11), some 12, some (6, false)⟩, []⟩,
  ⟨⟨.call (.const (.func 19 [] [])) [(.slot 7)], some 8, some (6, false)⟩, [⟨.load false 1 (.slot 1), some 9, some (6, false)⟩, ⟨.load false 1 (.slot 11), some 12, some (6, false)⟩]⟩,
  ⟨⟨.bin .gtr 3 .num (.slot 8) (.slot 12), some 13, some (6, false)⟩, []⟩,
  ⟨⟨.pick (.slot 6) (.const (.bool true)) (.slot 13), some 14, none⟩, []⟩,
  ⟨⟨.mv (.slot 14), some 3, none⟩, []⟩]
def xf82 : XFunc := ⟨(.seq (.region false r82_0)
  (.seq (.region true r82_1)
  .ret)),
  [.tmp 3]⟩
theorem xf82_ok : compFunc Tryz.prog Tryz.f82 = some xf82 := by kernel_rfl
/- (*threshing/base.Base).follows$1 -/
def r83_0 : List XLine := [⟨⟨.mv (.const (.bool false)), some 3, none⟩, []⟩]
def r83_1 : List XLine := [⟨⟨.load false 1 (.slot 1), some 4, none⟩, []⟩,
  ⟨⟨.mv (.slot 0), some 5, none⟩, []⟩,
  ⟨⟨.mapup .i32 (.slot 4) (.slot 5) (.const (.bool true)), none, none⟩, []⟩]
def r83_2 : List XLine := [⟨⟨.load false 1 (.slot 1), some 6, none⟩, []⟩,
  ⟨⟨.mv (.slot 0), some 7, none⟩, []⟩,
  ⟨⟨.un .neg (.slot 7), some 8, none⟩, []⟩,
  ⟨⟨.lookup .i32 (.bool false) (.slot 6) (.slot 8) false, some 9, none⟩, []⟩,
  ⟨⟨.mv (.slot 9), some 3, none⟩, []⟩]
def xf83 : XFunc := ⟨(.seq (.region false r83_0)
  (.seq (.region false r83_1)
  (.seq (.region false r83_2)
  .ret))),
  [.tmp 3]⟩
theorem xf83_ok : compFunc Tryz.prog Tryz.f83 = some xf83 := by kernel_rfl
/- threshing/cnf.Subsumes -/
def r84_0 : List XLine := [⟨⟨.box (.slot 1), some 3, none⟩, []⟩,
  ⟨⟨.mv (.const (.bool false)), some 4, none⟩, []⟩]
def r84_1 : List XLine := [⟨⟨.mv (.slot 0), some 5, none⟩, []⟩,
  ⟨⟨.mkfunc 108 [] [(.slot 3)], some 6, none⟩, []⟩,
  ⟨⟨.call (.const (.func 62 [] [])) [(.slot 5), (.slot 6)], some 7, none⟩, []⟩,
  ⟨⟨.un .not (.slot 7), some 8, none⟩, []⟩,
  ⟨⟨.mv (.slot 8), some 4, none⟩, []⟩]
def xf84 : XFunc := ⟨(.seq (.region false r84_0)
  (.seq (.region false r84_1)
  .ret)),
  [.tmp 4]⟩
theorem xf84_ok : compFunc Tryz.prog Tryz.f84 = some xf84 := by kernel_rfl
/- slices.insertionSortOrdered[int64] -/
def r85_0 : List XLine := [⟨⟨.mv (.slot 1), some 8, none⟩, []⟩,
  ⟨⟨.bin .add 3 .num (.slot 8) (.const (.int .i64 (.ofNat 1))), some 9, none⟩, []⟩,
  ⟨⟨.mv (.slot 9), some 6, none⟩, []⟩]
def r85_1 : List XLine := [⟨⟨.mv (.slot 6), some 10, none⟩, []⟩,
  ⟨⟨.mv (.slot 2), some 11, none⟩, []⟩,
  ⟨⟨.bin .lss 3 .num (.slot 10) (.slot 11), some 12, none⟩, []⟩]
def r85_2 : List XLine := [⟨⟨.mv (.slot 6), some 15, none⟩, []⟩,
  ⟨⟨.mv (.slot 15), some 7, none⟩, []⟩]
def r85_3 : List XLine := [⟨⟨.mv (.slot 7), some 16, none⟩, []⟩,
  ⟨⟨.mv (.slot 1), some 17, none⟩, []⟩,
  ⟨⟨.bin .gtr 3 .num (.slot 16) (.slot 17), some 18, none⟩, []⟩,
  ⟨⟨.mv (.slot 18), some 19, none⟩, []⟩,
  ⟨⟨.mv (.slot 0), some 20, some (19, true)⟩, []⟩,
  ⟨⟨.mv (.slot 7), some 21, some (19, true)⟩, []⟩,
  ⟨⟨.iaddr 1 (.slot 20) (.slot 21), some 22, some (19, true)⟩, []⟩,
  ⟨⟨.load false 1 (.slot 22), some 23, some (19, true)⟩, []⟩,
  ⟨⟨.mv (.slot 0), some 24, some (19, true)⟩, []⟩,
  ⟨⟨.mv (.slot 7), some 25, some (19, true)⟩, []⟩,
  ⟨⟨.bin .sub 3 .num (.slot 25) (.const (.int .i64 (.ofNat 1))), some 26, some (19, true)⟩, []⟩,
  ⟨⟨.iaddr 1 (.slot 24) (.slot 26), some 27, some (19, true)⟩, []⟩,
  ⟨⟨.load false 1 (.slot 27), some 28, some (19, true)⟩, []⟩,
  ⟨⟨.call (.const (.func 91 [] [])) [(.slot 23), (.slot 28)], some 29, some (19, true)⟩, []⟩,
  ⟨⟨.pick (.slot 19) (.slot 29) (.const (.bool false)), some 30, none⟩, []⟩]
def r85_4 : List XLine := [⟨⟨.mv (.slot 0), some 33, none⟩, []⟩,
  ⟨⟨.mv (.slot 7), some 34, none⟩, []⟩,
  ⟨⟨.mv (.slot 0), some 35, none⟩, []⟩,
  ⟨⟨.mv (.slot 7), some 36, none⟩, []⟩,
  ⟨⟨.bin .sub 3 .num (.slot 36) (.const (.int .i64 (.ofNat 1))), some 37, none⟩, []⟩,
  ⟨⟨.mv (.slot 0), some 38, none⟩, []⟩,
  ⟨⟨.mv (.slot 7), some 39, none⟩, []⟩,
  ⟨⟨.bin .sub 3 .num (.slot 39) (.const (.int .i64 (.ofNat 1))), some 40, none⟩, []⟩,
  ⟨⟨.iaddr 1 (.slot 38) (.slot 40), some 41, none⟩, []⟩,
  ⟨⟨.load false 1 (.slot 41), some 42, none⟩, []⟩,
  ⟨⟨.mv (.slot 0), some 43, none⟩, []⟩,
  ⟨⟨.mv (.slot 7), some 44, none⟩, []⟩,
  ⟨⟨.iaddr 1 (.slot 43) (.slot 44), some 45, none⟩, []⟩,
  ⟨⟨.load false 1 (.slot 45), some 46, none⟩, []⟩,
  ⟨⟨.iaddr 1 (.slot 33) (.slot 34), some 47, none⟩, []⟩,
  ⟨⟨.store 1 (.slot 47) (.slot 42), none, none⟩, []⟩,
  ⟨⟨.iaddr 1 (.slot 35) (.slot 37), some 48, none⟩, []⟩,
  ⟨⟨.store 1 (.slot 48) (.slot 46), none, none⟩, []⟩]
def r85_5 : List XLine := [⟨⟨.mv (.slot 7), some 31, none⟩, []⟩,
  ⟨⟨.bin .sub 3 .num (.slot 31) (.const (.int .i64 (.ofNat 1))), some 32, none⟩, []⟩,
  ⟨⟨.mv (.slot 32), some 7, none⟩, []⟩]
def r85_6 : List XLine := [⟨⟨.mv (.slot 6), some 13, none⟩, []⟩,
  ⟨⟨.bin .add 3 .num (.slot 13) (.const (.int .i64 (.ofNat 1))), some 14, none⟩, []⟩,
  ⟨⟨.mv (.slot 14), some 6, none⟩, []⟩]
def xf85 : XFunc := ⟨(.seq (.region false r85_0)
  (.block 0 (.loop (.seq (.seq (.region false r85_1)
  (.cond (.slot 12)
  .skip
  (.exit 0)))
  (.seq (.block 1 (.seq (.region false r85_2)
  (.block 2 (.loop (.seq (.seq (.region true r85_3)
  (.cond (.slot 30)
  .skip
  (.exit 2)))
  (.seq (.block 3 (.region true r85_4))
  (.region false r85_5)))))))
  (.region false r85_6)))))),
  []⟩
theorem xf85_ok : compFunc Tryz.prog Tryz.f85 = some xf85 := by kernel_rfl
/- slices.heapSortOrdered[int64] -/
def r86_0 : List XLine := [⟨⟨.mv (.slot 1), some 11, none⟩, []⟩,
  ⟨⟨.mv (.slot 11), some 6, none⟩, []⟩]
def r86_1 : List XLine := [⟨⟨.mv (.const (.int .i64 (.ofNat 0))), some 7, none⟩, []⟩]
def r86_2 : List XLine := [⟨⟨.mv (.slot 2), some 12, none⟩, []⟩,
  ⟨⟨.mv (.slot 1), some 13, none⟩, []⟩,
  ⟨⟨.bin .sub 3 .num (.slot 12) (.slot 13), some 14, none⟩, []⟩,
  ⟨⟨.mv (.slot 14), some 8, none⟩, []⟩]
def r86_3 : List XLine := [⟨⟨.mv (.slot 8), some 15, none⟩, []⟩,
  ⟨⟨.bin .sub 3 .num (.slot 15) (.const (.int .i64 (.ofNat 1))), some 16, none⟩, []⟩,
  ⟨⟨.bin .quo 3 .num (.slot 16) (.const (.int .i64 (.ofNat 2))), some 17, none⟩, []⟩,
  ⟨⟨.mv (.slot 17), some 9, none⟩, []⟩]
def r86_4 : List XLine := [⟨⟨.mv (.slot 9), some 18, none⟩, []⟩,
  ⟨⟨.bin .geq 3 .num (.slot 18) (.const (.int .i64 (.ofNat 0))), some 19, none⟩, []⟩]
def r86_5 : List XLine := [⟨⟨.mv (.slot 0), some 22, none⟩, []⟩,
  ⟨⟨.mv (.slot 9), some 23, none⟩, []⟩,
  ⟨⟨.mv (.slot 8), some 24, none⟩, []⟩,
  ⟨⟨.mv (.slot 6), some 25, none⟩, []⟩,
  ⟨⟨.call (.const (.func 109 [] [])) [(.slot 22), (.slot 23), (.slot 24), (.slot 25)], some 26, none⟩, []⟩]
def r86_6 : List XLine := [⟨⟨.mv (.slot 9), some 20, none⟩, []⟩,
  ⟨⟨.bin .sub 3 .num (.slot 20) (.const (.int .i64 (.ofNat 1))), some 21, none⟩, []⟩,
  ⟨⟨.mv (.slot 21), some 9, none⟩, []⟩]
def r86_7 : List XLine := [⟨⟨.mv (.slot 8), some 27, none⟩, []⟩,
  ⟨⟨.bin .sub 3 .num (.slot 27) (.const (.int .i64 (.ofNat 1))), some 28, none⟩, []⟩,
  ⟨⟨.mv (.slot 28), some 10, none⟩, []⟩]
def r86_8 : List XLine := [⟨⟨.mv (.slot 10), some 29, none⟩, []⟩,
  ⟨⟨.bin .geq 3 .num (.slot 29) (.const (.int .i64 (.ofNat 0))), some 30, none⟩, []⟩]
def r86_9 : List XLine := [⟨⟨.mv (.slot 0), some 33, none⟩, []⟩,
  ⟨⟨.mv (.slot 6), some 34, none⟩, []⟩,
  ⟨⟨.mv (.slot 0), some 35, none⟩, []⟩,
  ⟨⟨.mv (.slot 6), some 36, none⟩, []⟩,
  ⟨⟨.mv (.slot 10), some 37, none⟩, []⟩,
  ⟨⟨.bin .add 3 .num (.slot 36) (.slot 37), some 38, none⟩, []⟩,
  ⟨⟨.mv (.slot 0), some 39, none⟩, []⟩,
  ⟨⟨.mv (.slot 6), some 40, none⟩, []⟩,
  ⟨⟨.mv (.slot 10), some 41, none⟩, []⟩,
  ⟨⟨.bin .add 3 .num (.slot 40) (.slot 41), some 42, none⟩, []⟩,
  ⟨⟨.iaddr 1 (.slot 39) (.slot 42), some 43, none⟩, []⟩,
  ⟨⟨.load false 1 (.slot 43), some 44, none⟩, []⟩,
  ⟨⟨.mv (.slot 0), some 45, none⟩, []⟩,
  ⟨⟨.mv (.slot 6), some 46, none⟩, []⟩,
  ⟨⟨.iaddr 1 (.slot 45) (.slot 46), some 47, none⟩, []⟩,
  ⟨⟨.load false 1 (.slot 47), some 48, none⟩, []⟩,
  ⟨⟨.iaddr 1 (.slot 33) (.slot 34), some 49, none⟩, []⟩,
  ⟨⟨.store 1 (.slot 49) (.slot 44), none, none⟩, []⟩,
  ⟨⟨.iaddr 1 (.slot 35) (.slot 38), some 50, none⟩, []⟩,
  ⟨⟨.store 1 (.slot 50) (.slot 48), none, none⟩, []⟩]
def r86_10 : List XLine := [⟨⟨.mv (.slot 0), some 51, none⟩, []⟩,
  ⟨⟨.mv (.slot 7), some 52, none⟩, []⟩,
  ⟨⟨.mv (.slot 10), some 53, none⟩, []⟩,
  ⟨⟨.mv (.slot 6), some 54, none⟩, []⟩,
  ⟨⟨.call (.const (.func 109 [] [])) [(.slot 51), (.slot 52), (.slot 53), (.slot 54)], some 55, none⟩, []⟩]
def r86_11 : List XLine := [⟨⟨.mv (.slot 10), some 31, none⟩, []⟩,
  ⟨⟨.bin .sub 3 .num (.slot 31) (.const (.int .i64 (.ofNat 1))), some 32, none⟩, []⟩,
  ⟨⟨.mv (.slot 32), some 10, none⟩, []⟩]
def xf86 : XFunc := ⟨(.seq (.region false r86_0)
  (.seq (.region false r86_1)
  (.seq (.region false r86_2)
  (.seq (.seq (.region false r86_3)
  (.block 0 (.loop (.seq (.seq (.region false r86_4)
  (.cond (.slot 19)
  .skip
  (.exit 0)))
  (.seq (.block 1 (.region false r86_5))
  (.region false r86_6))))))
  (.seq (.region false r86_7)
  (.block 2 (.loop (.seq (.seq (.region false r86_8)
  (.cond (.slot 30)
  .skip
  (.exit 2)))
  (.seq (.block 3 (.seq (.region true r86_9)
  (.region false r86_10)))
  (.region false r86_11)))))))))),
  []⟩
theorem xf86_ok : compFunc Tryz.prog Tryz.f86 = some xf86 := by kernel_rfl
/- slices.breakPatternsOrdered[int64] -/
def r87_0 : List XLine := [⟨⟨.mv (.slot 2), some 11, none⟩, []⟩,
  ⟨⟨.mv (.slot 1), some 12, none⟩, []⟩,
  ⟨⟨.bin .sub 3 .num (.slot 11) (.slot 12), some 13, none⟩, []⟩,
  ⟨⟨.mv (.slot 13), some 6, none⟩, []⟩]
def r87_1 : List XLine := [⟨⟨.mv (.slot 6), some 14, none⟩, []⟩,
  ⟨⟨.bin .geq 3 .num (.slot 14) (.const (.int .i64 (.ofNat 8))), some 15, none⟩, []⟩]
def r87_2 : List XLine := [⟨⟨.mv (.slot 6), some 16, none⟩, []⟩,
  ⟨⟨.conv .u64 (.slot 16), some 17, none⟩, []⟩,
  ⟨⟨.alloc [(.int .u64 (.ofNat 0))], some 7, none⟩, []⟩,
  ⟨⟨.store 1 (.slot 7) (.slot 17), none, none⟩, []⟩]
def r87_3 : List XLine := [⟨⟨.mv (.slot 6), some 18, none⟩, []⟩,
  ⟨⟨.call (.const (.func 110 [] [])) [(.slot 18)], some 19, none⟩, []⟩,
  ⟨⟨.mv (.slot 19), some 8, none⟩, []⟩]
def r87_4 : List XLine := [⟨⟨.mv (.slot 1), some 20, none⟩, []⟩,
  ⟨⟨.mv (.slot 6), some 21, none⟩, []⟩,
  ⟨⟨.bin .quo 3 .num (.slot 21) (.const (.int .i64 (.ofNat 4))), some 22, none⟩, []⟩,
  ⟨⟨.bin .mul 3 .num (.slot 22) (.const (.int .i64 (.ofNat 2))), some 23, none⟩, []⟩,
  ⟨⟨.bin .add 3 .num (.slot 20) (.slot 23), some 24, none⟩, []⟩,
  ⟨⟨.bin .sub 3 .num (.slot 24) (.const (.int .i64 (.ofNat 1))), some 25, none⟩, []⟩,
  ⟨⟨.mv (.slot 25), some 9, none⟩, []⟩]
def r87_5 : List XLine := [⟨⟨.mv (.slot 9), some 26, none⟩, []⟩,
  ⟨⟨.mv (.slot 1), some 27, none⟩, []⟩,
  ⟨⟨.mv (.slot 6), some 28, none⟩, []⟩,
  ⟨⟨.bin .quo 3 .num (.slot 28) (.const (.int .i64 (.ofNat 4))), some 29, none⟩, []⟩,
  ⟨⟨.bin .mul 3 .num (.slot 29) (.const (.int .i64 (.ofNat 2))), some 30, none⟩, []⟩,
  ⟨⟨.bin .add 3 .num (.slot 27) (.slot 30), some 31, none⟩, []⟩,
  ⟨⟨.bin .add 3 .num (.slot 31) (.const (.int .i64 (.ofNat 1))), some 32, none⟩, []⟩,
  ⟨⟨.bin .leq 3 .num (.slot 26) (.slot 32), some 33, none⟩, []⟩]
def r87_6 : List XLine := [⟨⟨.call (.const (.func 111 [] [])) [(.slot 7)], some 36, none⟩, []⟩,
  ⟨⟨.mv (.slot 8), some 37, none⟩, []⟩,
  ⟨⟨.bin .sub 138 .num (.slot 37) (.const (.int .u64 (.ofNat 1))), some 38, none⟩, []⟩,
  ⟨⟨.bin .and 138 .num (.slot 36) (.slot 38), some 39, none⟩, []⟩,
  ⟨⟨.conv .i64 (.slot 39), some 40, none⟩, []⟩,
  ⟨⟨.mv (.slot 40), some 10, none⟩, []⟩]
def r87_7 : List XLine := [⟨⟨.mv (.slot 10), some 41, none⟩, []⟩,
  ⟨⟨.mv (.slot 6), some 42, none⟩, []⟩,
  ⟨⟨.bin .geq 3 .num (.slot 41) (.slot 42), some 43, none⟩, []⟩]
def r87_8 : List XLine := [⟨⟨.mv (.slot 10), some 44, none⟩, []⟩,
  ⟨⟨.mv (.slot 6), some 45, none⟩, []⟩,
  ⟨⟨.bin .sub 3 .num (.slot 44) (.slot 45), some 46, none⟩, []⟩,
  ⟨⟨.mv (.slot 46), some 10, none⟩, []⟩]
def r87_9 : List XLine := [⟨⟨.mv (.slot 0), some 47, none⟩, []⟩,
  ⟨⟨.mv (.slot 9), some 48, none⟩, []⟩,
  ⟨⟨.mv (.slot 0), some 49, none⟩, []⟩,
  ⟨⟨.mv (.slot 1), some 50, none⟩, []⟩,
  ⟨⟨.mv (.slot 10), some 51, none⟩, []⟩,
  ⟨⟨.bin .add 3 .num (.slot 50) (.slot 51), some 52, none⟩, []⟩,
  ⟨⟨.mv (.slot 0), some 53, none⟩, []⟩,
  ⟨⟨.mv (.slot 1), some 54, none⟩, []⟩,
  ⟨⟨.mv (.slot 10), some 55, none⟩, []⟩,
  ⟨⟨.bin .add 3 .num (.slot 54) (.slot 55), some 56, none⟩, []⟩,
  ⟨⟨.iaddr 1 (.slot 53) (.slot 56), some 57, none⟩, []⟩,
  ⟨⟨.load false 1 (.slot 57), some 58, none⟩, []⟩,
  ⟨⟨.mv (.slot 0), some 59, none⟩, []⟩,
  ⟨⟨.mv (.slot 9), some 60, none⟩, []⟩,
  ⟨⟨.iaddr 1 (.slot 59) (.slot 60), some 61, none⟩, []⟩,
  ⟨⟨.load false 1 (.slot 61), some 62, none⟩, []⟩,
  ⟨⟨.iaddr 1 (.slot 47) (.slot 48), some 63, none⟩, []⟩,
  ⟨⟨.store 1 (.slot 63) (.slot 58), none, none⟩, []⟩,
  ⟨⟨.iaddr 1 (.slot 49) (.slot 52), some 64, none⟩, []⟩,
  ⟨⟨.store 1 (.slot 64) (.slot 62), none, none⟩, []⟩]
def r87_10 : List XLine := [⟨⟨.mv (.slot 9), some 34, none⟩, []⟩,
  ⟨⟨.bin .add 3 .num (.slot 34) (.const (.int .i64 (.ofNat 1))), some 35, none⟩, []⟩,
  ⟨⟨.mv (.slot 35), some 9, none⟩, []⟩]
def xf87 : XFunc := ⟨(.seq (.region false r87_0)
  (.seq (.region false r87_1)
  (.cond (.slot 15)
  (.seq (.region false r87_2)
  (.seq (.region false r87_3)
  (.seq (.region false r87_4)
  (.block 0 (.loop (.seq (.seq (.region false r87_5)
  (.cond (.slot 33)
  .skip
  (.exit 0)))
  (.seq (.block 1 (.seq (.region false r87_6)
  (.seq (.seq (.region false r87_7)
  (.cond (.slot 43)
  (.region false r87_8)
  .skip))
  (.region true r87_9))))
  (.region false r87_10))))))))
  .skip))),
  []⟩
theorem xf87_ok : compFunc Tryz.prog Tryz.f87 = some xf87 := by kernel_rfl
/- slices.choosePivotOrdered[int64] -/
def r88_0 : List XLine := [⟨⟨.mv (.const (.int .i64 (.ofNat 0))), some 6, none⟩, []⟩,
  ⟨⟨.mv (.const (.int .i64 (.ofNat 0))), some 7, none⟩, []⟩]
def r88_1 : List XLine := [⟨⟨.mv (.slot 2), some 13, none⟩, []⟩,
  ⟨⟨.mv (.slot 1), some 14, none⟩, []⟩,
  ⟨⟨.bin .sub 3 .num (.slot 13) (.slot 14), some 15, none⟩, []⟩,
  ⟨⟨.mv (.slot 15), some 8, none⟩, []⟩]
def r88_2 : List XLine := [⟨⟨.alloc [(.int .i64 (.ofNat 0))], some 9, none⟩, []⟩]
def r88_3 : List XLine := [⟨⟨.mv (.slot 1), some 16, none⟩, []⟩,
  ⟨⟨.mv (.slot 8), some 17, none⟩, []⟩,
  ⟨⟨.bin .quo 3 .num (.slot 17) (.const (.int .i64 (.ofNat 4))), some 18, none⟩, []⟩,
  ⟨⟨.bin .mul 3 .num (.slot 18) (.const (.int .i64 (.ofNat 1))), some 19, none⟩, []⟩,
  ⟨⟨.bin .add 3 .num (.slot 16) (.slot 19), some 20, none⟩, []⟩,
  ⟨⟨.mv (.slot 20), some 10, none⟩, []⟩]
def r88_4 : List XLine := [⟨⟨.mv (.slot 1), some 21, none⟩, []⟩,
  ⟨⟨.mv (.slot 8), some 22, none⟩, []⟩,
  ⟨⟨.bin .quo 3 .num (.slot 22) (.const (.int .i64 (.ofNat 4))), some 23, none⟩, []⟩,
  ⟨⟨.bin .mul 3 .num (.slot 23) (.const (.int .i64 (.ofNat 2))), some 24, none⟩, []⟩,
  ⟨⟨.bin .add 3 .num (.slot 21) (.slot 24), some 25, none⟩, []⟩,
  ⟨⟨.mv (.slot 25), some 11, none⟩, []⟩]
def r88_5 : List XLine := [⟨⟨.mv (.slot 1), some 26, none⟩, []⟩,
  ⟨⟨.mv (.slot 8), some 27, none⟩, []⟩,
  ⟨⟨.bin .quo 3 .num (.slot 27) (.const (.int .i64 (.ofNat 4))), some 28, none⟩, []⟩,
  ⟨⟨.bin .mul 3 .num (.slot 28) (.const (.int .i64 (.ofNat 3))), some 29, none⟩, []⟩,
  ⟨⟨.bin .add 3 .num (.slot 26) (.slot 29), some 30, none⟩, []⟩,
  ⟨⟨.mv (.slot 30), some 12, none⟩, []⟩]
def r88_6 : List XLine := [⟨⟨.mv (.slot 8), some 31, none⟩, []⟩,
  ⟨⟨.bin .geq 3 .num (.slot 31) (.const (.int .i64 (.ofNat 8))), some 32, none⟩, []⟩]
def r88_7 : List XLine := [⟨⟨.mv (.slot 8), some 33, none⟩, []⟩,
  ⟨⟨.bin .geq 3 .num (.slot 33) (.const (.int .i64 (.ofNat 50))), some 34, none⟩, []⟩]
def r88_8 : List XLine := [⟨⟨.mv (.slot 0), some 35, none⟩, []⟩,
  ⟨⟨.mv (.slot 10), some 36, none⟩, []⟩,
  ⟨⟨.call (.const (.func 112 [] [])) [(.slot 35), (.slot 36), (.slot 9)], some 37, none⟩, []⟩,
  ⟨⟨.mv (.slot 37), some 10, none⟩, []⟩]
def r88_9 : List XLine := [⟨⟨.mv (.slot 0), some 38, none⟩, []⟩,
  ⟨⟨.mv (.slot 11), some 39, none⟩, []⟩,
  ⟨⟨.call (.const (.func 112 [] [])) [(.slot 38), (.slot 39), (.slot 9)], some 40, none⟩, []⟩,
  ⟨⟨.mv (.slot 40), some 11, none⟩, []⟩]
def r88_10 : List XLine := [⟨⟨.mv (.slot 0), some 41, none⟩, []⟩,
  ⟨⟨.mv (.slot 12), some 42, none⟩, []⟩,
  ⟨⟨.call (.const (.func 112 [] [])) [(.slot 41), (.slot 42), (.slot 9)], some 43, none⟩, []⟩,
  ⟨⟨.mv (.slot 43), some 12, none⟩, []⟩]
def r88_11 : List XLine := [⟨⟨.mv (.slot 0), some 44, none⟩, []⟩,
  ⟨⟨.mv (.slot 10), some 45, none⟩, []⟩,
  ⟨⟨.mv (.slot 11), some 46, none⟩, []⟩,
  ⟨⟨.mv (.slot 12), some 47, none⟩, []⟩,
  ⟨⟨.call (.const (.func 113 [] [])) [(.slot 44), (.slot 45), (.slot 46), (.slot 47), (.slot 9)], some 48, none⟩, []⟩,
  ⟨⟨.mv (.slot 48), some 11, none⟩, []⟩]
def r88_12 : List XLine := [⟨⟨.load false 1 (.slot 9), some 49, none⟩, []⟩]
def r88_13 : List XLine := [⟨⟨.bin .eql 3 .num (.slot 49) (.const (.int .i64 (.ofNat 0))), some 52, none⟩, []⟩,
  ⟨⟨.mv (.slot 52), some 51, none⟩, []⟩]
def r88_14 : List XLine := [⟨⟨.mv (.slot 11), some 53, none⟩, []⟩,
  ⟨⟨.mv (.slot 53), some 6, none⟩, []⟩,
  ⟨⟨.mv (.const (.int .i64 (.ofNat 1))), some 7, none⟩, []⟩]
def r88_15 : List XLine := [⟨⟨.bin .eql 3 .num (.slot 49) (.const (.int .i64 (.ofNat 12))), some 55, none⟩, []⟩,
  ⟨⟨.mv (.slot 55), some 54, none⟩, []⟩]
def r88_16 : List XLine := [⟨⟨.mv (.slot 11), some 56, none⟩, []⟩,
  ⟨⟨.mv (.slot 56), some 6, none⟩, []⟩,
  ⟨⟨.mv (.const (.int .i64 (.ofNat 2))), some 7, none⟩, []⟩]
def r88_17 : List XLine := [⟨⟨.mv (.slot 11), some 50, none⟩, []⟩,
  ⟨⟨.mv (.slot 50), some 6, none⟩, []⟩,
  ⟨⟨.mv (.const (.int .i64 (.ofNat 0))), some 7, none⟩, []⟩]
def xf88 : XFunc := ⟨(.seq (.region false r88_0)
  (.seq (.region false r88_1)
  (.seq (.region false r88_2)
  (.seq (.region false r88_3)
  (.seq (.region false r88_4)
  (.seq (.region false r88_5)
  (.seq (.seq (.region false r88_6)
  (.cond (.slot 32)
  (.seq (.seq (.region false r88_7)
  (.cond (.slot 34)
  (.seq (.region false r88_8)
  (.seq (.region false r88_9)
  (.region false r88_10)))
  .skip))
  (.region false r88_11))
  .skip))
  (.seq (.region false r88_12)
  (.block 0 (.seq (.region false r88_13)
  (.cond (.slot 51)
  (.seq (.region false r88_14)
  .ret)
  (.seq (.region false r88_15)
  (.cond (.slot 54)
  (.seq (.region false r88_16)
  .ret)
  (.seq (.region false r88_17)
  .ret)))))))))))))),
  [.tmp 6, .tmp 7]⟩
theorem xf88_ok : compFunc Tryz.prog Tryz.f88 = some xf88 := by kernel_rfl
/- slices.reverseRangeOrdered[int64] -/
def r89_0 : List XLine := [⟨⟨.mv (.slot 1), some 8, none⟩, []⟩,
  ⟨⟨.mv (.slot 8), some 6, none⟩, []⟩]
def r89_1 : List XLine := [⟨⟨.mv (.slot 2), some 9, none⟩, []⟩,
  ⟨⟨.bin .sub 3 .num (.slot 9) (.const (.int .i64 (.ofNat 1))), some 10, none⟩, []⟩,
  ⟨⟨.mv (.slot 10), some 7, none⟩, []⟩]
def r89_2 : List XLine := [⟨⟨.mv (.slot 6), some 11, none⟩, []⟩,
  ⟨⟨.mv (.slot 7), some 12, none⟩, []⟩,
  ⟨⟨.bin .lss 3 .num (.slot 11) (.slot 12), some 13, none⟩, []⟩]
def r89_3 : List XLine := [⟨⟨.mv (.slot 0), some 14, none⟩, []⟩,
  ⟨⟨.mv (.slot 6), some 15, none⟩, []⟩,
  ⟨⟨.mv (.slot 0), some 16, none⟩, []⟩,
  ⟨⟨.mv (.slot 7), some 17, none⟩, []⟩,
  ⟨⟨.mv (.slot 0), some 18, none⟩, []⟩,
  ⟨⟨.mv (.slot 7), some 19, none⟩, []⟩,
  ⟨⟨.iaddr 1 (.slot 18) (.slot 19), some 20, none⟩, []⟩,
  ⟨⟨.load false 1 (.slot 20), some 21, none⟩, []⟩,
  ⟨⟨.mv (.slot 0), some 22, none⟩, []⟩,
  ⟨⟨.mv (.slot 6), some 23, none⟩, []⟩,
  ⟨⟨.iaddr 1 (.slot 22) (.slot 23), some 24, none⟩, []⟩,
  ⟨⟨.load false 1 (.slot 24), some 25, none⟩, []⟩,
  ⟨⟨.iaddr 1 (.slot 14) (.slot 15), some 26, none⟩, []⟩,
  ⟨⟨.store 1 (.slot 26) (.slot 21), none, none⟩, []⟩,
  ⟨⟨.iaddr 1 (.slot 16) (.slot 17), some 27, none⟩, []⟩,
  ⟨⟨.store 1 (.slot 27) (.slot 25), none, none⟩, []⟩]
def r89_4 : List XLine := [⟨⟨.mv (.slot 6), some 28, none⟩, []⟩,
  ⟨⟨.bin .add 3 .num (.slot 28) (.const (.int .i64 (.ofNat 1))), some 29, none⟩, []⟩,
  ⟨⟨.mv (.slot 29), some 6, none⟩, []⟩]
def r89_5 : List XLine := [⟨⟨.mv (.slot 7), some 30, none⟩, []⟩,
  ⟨⟨.bin .sub 3 .num (.slot 30) (.const (.int .i64 (.ofNat 1))), some 31, none⟩, []⟩,
  ⟨⟨.mv (.slot 31), some 7, none⟩, []⟩]
def xf89 : XFunc := ⟨(.seq (.region false r89_0)
  (.seq (.region false r89_1)
  (.block 0 (.loop (.seq (.seq (.region false r89_2)
  (.cond (.slot 13)
  .skip
  (.exit 0)))
  (.block 1 (.seq (.region true r89_3)
  (.seq (.region false r89_4)
  (.region false r89_5))))))))),
  []⟩
theorem xf89_ok : compFunc Tryz.prog Tryz.f89 = some xf89 := by kernel_rfl
/- slices.partialInsertionSortOrdered[int64] -/
def r90_0 : List XLine := [⟨⟨.mv (.const (.bool false)), some 6, none⟩, []⟩]
def r90_1 : List XLine := [⟨⟨.mv (.slot 1), some 11, none⟩, []⟩,
  ⟨⟨.bin .add 3 .num (.slot 11) (.const (.int .i64 (.ofNat 1))), some 12, none⟩, []⟩,
  ⟨⟨.mv (.slot 12), some 7, none⟩, []⟩]
def r90_2 : List XLine := [⟨⟨.mv (.const (.int .i64 (.ofNat 0))), some 8, none⟩, []⟩]
def r90_3 : List XLine := [⟨⟨.mv (.slot 8), some 13, none⟩, []⟩,
  ⟨⟨.bin .lss 3 .num (.slot 13) (.const (.int .i64 (.ofNat 5))), some 14, none⟩, []⟩]
def r90_4 : List XLine := [⟨⟨.mv (.slot 7), some 17, none⟩, []⟩,
  ⟨⟨.mv (.slot 2), some 18, none⟩, []⟩,
  ⟨⟨.bin .lss 3 .num (.slot 17) (.slot 18), some 19, none⟩, []⟩,
  ⟨⟨.mv (.slot 19), some 20, none⟩, []⟩,
  ⟨⟨.mv (.slot 0), some 21, some (20, true)⟩, []⟩,
  ⟨⟨.mv (.slot 7), some 22, some (20, true)⟩, []⟩,
  ⟨⟨.iaddr 1 (.slot 21) (.slot 22), some 23, some (20, true)⟩, []⟩,
  ⟨⟨.load false 1 (.slot 23), some 24, some (20, true)⟩, []⟩,
  ⟨⟨.mv (.slot 0), some 25, some (20, true)⟩, []⟩,
  ⟨⟨.mv (.slot 7), some 26, some (20, true)⟩, []⟩,
  ⟨⟨.bin .sub 3 .num (.slot 26) (.const (.int .i64 (.ofNat 1))), some 27, some (20, true)⟩, []⟩,
  ⟨⟨.iaddr 1 (.slot 25) (.slot 27), some 28, some (20, true)⟩, []⟩,
  ⟨⟨.load false 1 (.slot 28), some 29, some (20, true)⟩, []⟩,
  ⟨⟨.call (.const (.func 91 [] [])) [(.slot 24), (.slot 29)], some 30, some (20, true)⟩, []⟩,
  ⟨⟨.un .not (.slot 30), some 31, some (20, true)⟩, []⟩,
  ⟨⟨.pick (.slot 20) (.slot 31) (.const (.bool false)), some 32, none⟩, []⟩]
def r90_5 : List XLine := [⟨⟨.mv (.slot 7), some 33, none⟩, []⟩,
  ⟨⟨.bin .add 3 .num (.slot 33) (.const (.int .i64 (.ofNat 1))), some 34, none⟩, []⟩,
  ⟨⟨.mv (.slot 34), some 7, none⟩, []⟩]
def r90_6 : List XLine := [⟨⟨.mv (.slot 7), some 35, none⟩, []⟩,
  ⟨⟨.mv (.slot 2), some 36, none⟩, []⟩,
  ⟨⟨.bin .eql 3 .num (.slot 35) (.slot 36), some 37, none⟩, []⟩]
def r90_7 : List XLine := [⟨⟨.mv (.const (.bool true)), some 6, none⟩, []⟩]
def r90_8 : List XLine := [⟨⟨.mv (.slot 2), some 38, none⟩, []⟩,
  ⟨⟨.mv (.slot 1), some 39, none⟩, []⟩,
  ⟨⟨.bin .sub 3 .num (.slot 38) (.slot 39), some 40, none⟩, []⟩,
  ⟨⟨.bin .lss 3 .num (.slot 40) (.const (.int .i64 (.ofNat 50))), some 41, none⟩, []⟩]
def r90_9 : List XLine := [⟨⟨.mv (.const (.bool false)), some 6, none⟩, []⟩]
def r90_10 : List XLine := [⟨⟨.mv (.slot 0), some 42, none⟩, []⟩,
  ⟨⟨.mv (.slot 7), some 43, none⟩, []⟩,
  ⟨⟨.mv (.slot 0), some 44, none⟩, []⟩,
  ⟨⟨.mv (.slot 7), some 45, none⟩, []⟩,
  ⟨⟨.bin .sub 3 .num (.slot 45) (.const (.int .i64 (.ofNat 1))), some 46, none⟩, []⟩,
  ⟨⟨.mv (.slot 0), some 47, none⟩, []⟩,
  ⟨⟨.mv (.slot 7), some 48, none⟩, []⟩,
  ⟨⟨.bin .sub 3 .num (.slot 48) (.const (.int .i64 (.ofNat 1))), some 49, none⟩, []⟩,
  ⟨⟨.iaddr 1 (.slot 47) (.slot 49), some 50, none⟩, []⟩,
  ⟨⟨.load false 1 (.slot 50), some 51, none⟩, []⟩,
  ⟨⟨.mv (.slot 0), some 52, none⟩, []⟩,
  ⟨⟨.mv (.slot 7), some 53, none⟩, []⟩,
  ⟨⟨.iaddr 1 (.slot 52) (.slot 53), some 54, none⟩, []⟩,
  ⟨⟨.load false 1 (.slot 54), some 55, none⟩, []⟩,
  ⟨⟨.iaddr 1 (.slot 42) (.slot 43), some 56, none⟩, []⟩,
  ⟨⟨.store 1 (.slot 56) (.slot 51), none, none⟩, []⟩,
  ⟨⟨.iaddr 1 (.slot 44) (.slot 46), some 57, none⟩, []⟩,
  ⟨⟨.store 1 (.slot 57) (.slot 55), none, none⟩, []⟩]
def r90_11 : List XLine := [⟨⟨.mv (.slot 7), some 58, none⟩, []⟩,
  ⟨⟨.mv (.slot 1), some 59, none⟩, []⟩,
  ⟨⟨.bin .sub 3 .num (.slot 58) (.slot 59), some 60, none⟩, []⟩,
  ⟨⟨.bin .geq 3 .num (.slot 60) (.const (.int .i64 (.ofNat 2))), some 61, none⟩, []⟩]
def r90_12 : List XLine := [⟨⟨.mv (.slot 7), some 62, none⟩, []⟩,
  ⟨⟨.bin .sub 3 .num (.slot 62) (.const (.int .i64 (.ofNat 1))), some 63, none⟩, []⟩,
  ⟨⟨.mv (.slot 63), some 9, none⟩, []⟩]
def r90_13 : List XLine := [⟨⟨.mv (.slot 9), some 64, none⟩, []⟩,
  ⟨⟨.bin .geq 3 .num (.slot 64) (.const (.int .i64 (.ofNat 1))), some 65, none⟩, []⟩]
def r90_14 : List XLine := [⟨⟨.mv (.slot 0), some 68, none⟩, []⟩,
  ⟨⟨.mv (.slot 9), some 69, none⟩, []⟩,
  ⟨⟨.iaddr 1 (.slot 68) (.slot 69), some 70, none⟩, []⟩,
  ⟨⟨.load false 1 (.slot 70), some 71, none⟩, []⟩,
  ⟨⟨.mv (.slot 0), some 72, none⟩, []⟩,
  ⟨⟨.mv (.slot 9), some 73, none⟩, []⟩,
  ⟨⟨.bin .sub 3 .num (.slot 73) (.const (.int .i64 (.ofNat 1))), some 74, none⟩, []⟩,
  ⟨⟨.iaddr 1 (.slot 72) (.slot 74), some 75, none⟩, []⟩,
  ⟨⟨.load false 1 (.slot 75), some 76, none⟩, []⟩,
  ⟨⟨.call (.const (.func 91 [] [])) [(.slot 71), (.slot 76)], some 77, none⟩, []⟩,
  ⟨⟨.un .not (.slot 77), some 78, none⟩, []⟩]
def r90_15 : List XLine := [⟨⟨.mv (.slot 0), some 79, none⟩, []⟩,
  ⟨⟨.mv (.slot 9), some 80, none⟩, []⟩,
  ⟨⟨.mv (.slot 0), some 81, none⟩, []⟩,
  ⟨⟨.mv (.slot 9), some 82, none⟩, []⟩,
  ⟨⟨.bin .sub 3 .num (.slot 82) (.const (.int .i64 (.ofNat 1))), some 83, none⟩, []⟩,
  ⟨⟨.mv (.slot 0), some 84, none⟩, []⟩,
  ⟨⟨.mv (.slot 9), some 85, none⟩, []⟩,
  ⟨⟨.bin .sub 3 .num (.slot 85) (.const (.int .i64 (.ofNat 1))), some 86, none⟩, []⟩,
  ⟨⟨.iaddr 1 (.slot 84) (.slot 86), some 87, none⟩, []⟩,
  ⟨⟨.load false 1 (.slot 87), some 88, none⟩, []⟩,
  ⟨⟨.mv (.slot 0), some 89, none⟩, []⟩,
  ⟨⟨.mv (.slot 9), some 90, none⟩, []⟩,
  ⟨⟨.iaddr 1 (.slot 89) (.slot 90), some 91, none⟩, []⟩,
  ⟨⟨.load false 1 (.slot 91), some 92, none⟩, []⟩,
  ⟨⟨.iaddr 1 (.slot 79) (.slot 80), some 93, none⟩, []⟩,
  ⟨⟨.store 1 (.slot 93) (.slot 88), none, none⟩, []⟩,
  ⟨⟨.iaddr 1 (.slot 81) (.slot 83), some 94, none⟩, []⟩,
  ⟨⟨.store 1 (.slot 94) (.slot 92), none, none⟩, []⟩]
def r90_16 : List XLine := [⟨⟨.mv (.slot 9), some 66, none⟩, []⟩,
  ⟨⟨.bin .sub 3 .num (.slot 66) (.const (.int .i64 (.ofNat 1))), some 67, none⟩, []⟩,
  ⟨⟨.mv (.slot 67), some 9, none⟩, []⟩]
def r90_17 : List XLine := [⟨⟨.mv (.slot 2), some 95, none⟩, []⟩,
  ⟨⟨.mv (.slot 7), some 96, none⟩, []⟩,
  ⟨⟨.bin .sub 3 .num (.slot 95) (.slot 96), some 97, none⟩, []⟩,
  ⟨⟨.bin .geq 3 .num (.slot 97) (.const (.int .i64 (.ofNat 2))), some 98, none⟩, []⟩]
def r90_18 : List XLine := [⟨⟨.mv (.slot 7), some 99, none⟩, []⟩,
  ⟨⟨.bin .add 3 .num (.slot 99) (.const (.int .i64 (.ofNat 1))), some 100, none⟩, []⟩,
  ⟨⟨.mv (.slot 100), some 10, none⟩, []⟩]
def r90_19 : List XLine := [⟨⟨.mv (.slot 10), some 101, none⟩, []⟩,
  ⟨⟨.mv (.slot 2), some 102, none⟩, []⟩,
  ⟨⟨.bin .lss 3 .num (.slot 101) (.slot 102), some 103, none⟩, []⟩]
def r90_20 : List XLine := [⟨⟨.mv (.slot 0), some 106, none⟩, []⟩,
  ⟨⟨.mv (.slot 10), some 107, none⟩, []⟩,
  ⟨⟨.iaddr 1 (.slot 106) (.slot 107), some 108, none⟩, []⟩,
  ⟨⟨.load false 1 (.slot 108), some 109, none⟩, []⟩,
  ⟨⟨.mv (.slot 0), some 110, none⟩, []⟩,
  ⟨⟨.mv (.slot 10), some 111, none⟩, []⟩,
  ⟨⟨.bin .sub 3 .num (.slot 111) (.const (.int .i64 (.ofNat 1))), some 112, none⟩, []⟩,
  ⟨⟨.iaddr 1 (.slot 110) (.slot 112), some 113, none⟩, []⟩,
  ⟨⟨.load false 1 (.slot 113), some 114, none⟩, []⟩,
  ⟨⟨.call (.const (.func 91 [] [])) [(.slot 109), (.slot 114)], some 115, none⟩, []⟩,
  ⟨⟨.un .not (.slot 115), some 116, none⟩, []⟩]
def r90_21 : List XLine := [⟨⟨.mv (.slot 0), some 117, none⟩, []⟩,
  ⟨⟨.mv (.slot 10), some 118, none⟩, []⟩,
  ⟨⟨.mv (.slot 0), some 119, none⟩, []⟩,
  ⟨⟨.mv (.slot 10), some 120, none⟩, []⟩,
  ⟨⟨.bin .sub 3 .num (.slot 120) (.const (.int .i64 (.ofNat 1))), some 121, none⟩, []⟩,
  ⟨⟨.mv (.slot 0), some 122, none⟩, []⟩,
  ⟨⟨.mv (.slot 10), some 123, none⟩, []⟩,
  ⟨⟨.bin .sub 3 .num (.slot 123) (.const (.int .i64 (.ofNat 1))), some 124, none⟩, []⟩,
  ⟨⟨.iaddr 1 (.slot 122) (.slot 124), some 125, none⟩, []⟩,
  ⟨⟨.load false 1 (.slot 125), some 126, none⟩, []⟩,
  ⟨⟨.mv (.slot 0), some 127, none⟩, []⟩,
  ⟨⟨.mv (.slot 10), some 128, none⟩, []⟩,
  ⟨⟨.iaddr 1 (.slot 127) (.slot 128), some 129, none⟩, []⟩,
  ⟨⟨.load false 1 (.slot 129), some 130, none⟩, []⟩,
  ⟨⟨.iaddr 1 (.slot 117) (.slot 118), some 131, none⟩, []⟩,
  ⟨⟨.store 1 (.slot 131) (.slot 126), none, none⟩, []⟩,
  ⟨⟨.iaddr 1 (.slot 119) (.slot 121), some 132, none⟩, []⟩,
  ⟨⟨.store 1 (.slot 132) (.slot 130), none, none⟩, []⟩]
def r90_22 : List XLine := [⟨⟨.mv (.slot 10), some 104, none⟩, []⟩,
  ⟨⟨.bin .add 3 .num (.slot 104) (.const (.int .i64 (.ofNat 1))), some 105, none⟩, []⟩,
  ⟨⟨.mv (.slot 105), some 10, none⟩, []⟩]
def r90_23 : List XLine := [⟨⟨.mv (.slot 8), some 15, none⟩, []⟩,
  ⟨⟨.bin .add 3 .num (.slot 15) (.const (.int .i64 (.ofNat 1))), some 16, none⟩, []⟩,
  ⟨⟨.mv (.slot 16), some 8, none⟩, []⟩]
def r90_24 : List XLine := [⟨⟨.mv (.const (.bool false)), some 6, none⟩, []⟩]
def xf90 : XFunc := ⟨(.seq (.region false r90_0)
  (.seq (.region false r90_1)
  (.seq (.seq (.region false r90_2)
  (.block 0 (.loop (.seq (.seq (.region false r90_3)
  (.cond (.slot 14)
  .skip
  (.exit 0)))
  (.seq (.block 1 (.seq (.block 2 (.loop (.seq (.seq (.region true r90_4)
  (.cond (.slot 32)
  .skip
  (.exit 2)))
  (.block 3 (.region false r90_5)))))
  (.seq (.seq (.region false r90_6)
  (.cond (.slot 37)
  (.seq (.region false r90_7)
  .ret)
  .skip))
  (.seq (.seq (.region false r90_8)
  (.cond (.slot 41)
  (.seq (.region false r90_9)
  .ret)
  .skip))
  (.seq (.region true r90_10)
  (.seq (.seq (.region false r90_11)
  (.cond (.slot 61)
  (.seq (.region false r90_12)
  (.block 4 (.loop (.seq (.seq (.region false r90_13)
  (.cond (.slot 65)
  .skip
  (.exit 4)))
  (.seq (.block 5 (.seq (.seq (.region true r90_14)
  (.cond (.slot 78)
  (.exit 4)
  .skip))
  (.region true r90_15)))
  (.region false r90_16))))))
  .skip))
  (.seq (.region false r90_17)
  (.cond (.slot 98)
  (.seq (.region false r90_18)
  (.block 6 (.loop (.seq (.seq (.region false r90_19)
  (.cond (.slot 103)
  .skip
  (.exit 6)))
  (.seq (.block 7 (.seq (.seq (.region true r90_20)
  (.cond (.slot 116)
  (.exit 6)
  .skip))
  (.region true r90_21)))
  (.region false r90_22))))))
  .skip))))))))
  (.region false r90_23))))))
  (.seq (.region false r90_24)
  .ret)))),
  [.tmp 6]⟩
theorem xf90_ok : compFunc Tryz.prog Tryz.f90 = some xf90 := by kernel_rfl
end Go.Proofs.YtcpkfdabkpeomaaGreat

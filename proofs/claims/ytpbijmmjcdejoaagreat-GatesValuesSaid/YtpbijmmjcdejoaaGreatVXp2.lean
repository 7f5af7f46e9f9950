/- The functions of the program in X's code, printed by a program of ours; each is what the program's own is turned to. -/
import Derived.Test.YtpbijmmjcdejoaaGreatProg
import Derived.Test.YtpbijmmjcdejoaaGreatW0
import Derived.KernelRfl
namespace Go.Proofs.YtpbijmmjcdejoaaGreat
open Go.Xr
/- threshing/base.entry -/
def r41_0 : List XLine := [⟨⟨.box (.slot 0), some 1, none⟩, []⟩,
  ⟨⟨.alloc [(.int .i64 (.ofNat 0)), .nils, (.bool false)], some 2, none⟩, []⟩]
def r41_1 : List XLine := [⟨⟨.faddr 1 (.slot 1), some 3, none⟩, []⟩,
  ⟨⟨.load false 1 (.slot 3), some 4, none⟩, []⟩,
  ⟨⟨.call (.const (.func 46 [] [])) [(.slot 4)], some 5, none⟩, []⟩,
  ⟨⟨.faddr 1 (.slot 1), some 6, none⟩, []⟩,
  ⟨⟨.store 1 (.slot 6) (.slot 5), none, none⟩, []⟩]
def r41_2 : List XLine := [⟨⟨.load true 3 (.slot 1), some 7, none⟩, []⟩,
  ⟨⟨.store 3 (.slot 2) (.slot 7), none, none⟩, []⟩]
def xf41 : XFunc := ⟨(.seq (.region false r41_0)
  (.seq (.region false r41_1)
  (.seq (.region false r41_2)
  .ret))),
  [.cell 2 true 3]⟩
theorem xf41_ok : compFunc Tryz.prog Tryz.f41 = some xf41 := by kernel_rfl
/- slices.pdqsortOrdered[int] -/
def r42_0 : List XLine := [⟨⟨.mv (.const (.bool true)), some 8, none⟩, []⟩]
def r42_1 : List XLine := [⟨⟨.mv (.const (.bool true)), some 9, none⟩, []⟩]
def r42_2 : List XLine := [⟨⟨.mv (.slot 2), some 19, none⟩, []⟩,
  ⟨⟨.mv (.slot 1), some 20, none⟩, []⟩,
  ⟨⟨.bin .sub 3 .num (.slot 19) (.slot 20), some 21, none⟩, []⟩,
  ⟨⟨.mv (.slot 21), some 10, none⟩, []⟩]
def r42_3 : List XLine := [⟨⟨.mv (.slot 10), some 22, none⟩, []⟩,
  ⟨⟨.bin .leq 3 .num (.slot 22) (.const (.int .i64 (.ofNat 12))), some 23, none⟩, []⟩]
def r42_4 : List XLine := [⟨⟨.mv (.slot 0), some 24, none⟩, []⟩,
  ⟨⟨.mv (.slot 1), some 25, none⟩, []⟩,
  ⟨⟨.mv (.slot 2), some 26, none⟩, []⟩,
  ⟨⟨.call (.const (.func 65 [] [])) [(.slot 24), (.slot 25), (.slot 26)], some 27, none⟩, []⟩]
def r42_5 : List XLine := [⟨⟨.mv (.slot 3), some 28, none⟩, []⟩,
  ⟨⟨.bin .eql 3 .num (.slot 28) (.const (.int .i64 (.ofNat 0))), some 29, none⟩, []⟩]
def r42_6 : List XLine := [⟨⟨.mv (.slot 0), some 30, none⟩, []⟩,
  ⟨⟨.mv (.slot 1), some 31, none⟩, []⟩,
  ⟨⟨.mv (.slot 2), some 32, none⟩, []⟩,
  ⟨⟨.call (.const (.func 66 [] [])) [(.slot 30), (.slot 31), (.slot 32)], some 33, none⟩, []⟩]
def r42_7 : List XLine := [⟨⟨.mv (.slot 8), some 34, none⟩, []⟩,
  ⟨⟨.un .not (.slot 34), some 35, none⟩, []⟩]
def r42_8 : List XLine := [⟨⟨.mv (.slot 0), some 36, none⟩, []⟩,
  ⟨⟨.mv (.slot 1), some 37, none⟩, []⟩,
  ⟨⟨.mv (.slot 2), some 38, none⟩, []⟩,
  ⟨⟨.call (.const (.func 67 [] [])) [(.slot 36), (.slot 37), (.slot 38)], some 39, none⟩, []⟩]
def r42_9 : List XLine := [⟨⟨.mv (.slot 3), some 40, none⟩, []⟩,
  ⟨⟨.bin .sub 3 .num (.slot 40) (.const (.int .i64 (.ofNat 1))), some 41, none⟩, []⟩,
  ⟨⟨.mv (.slot 41), some 3, none⟩, []⟩]
def r42_10 : List XLine := [⟨⟨.mv (.slot 0), some 43, none⟩, []⟩,
  ⟨⟨.mv (.slot 1), some 44, none⟩, []⟩,
  ⟨⟨.mv (.slot 2), some 45, none⟩, []⟩,
  ⟨⟨.call (.const (.func 68 [] [])) [(.slot 43), (.slot 44), (.slot 45)], some 46, none⟩, []⟩,
  ⟨⟨.mv (.slot 46), some 42, none⟩, []⟩,
  ⟨⟨.extract (.slot 42) 0, some 47, none⟩, []⟩,
  ⟨⟨.extract (.slot 42) 1, some 48, none⟩, []⟩,
  ⟨⟨.mv (.slot 47), some 11, none⟩, []⟩,
  ⟨⟨.mv (.slot 48), some 12, none⟩, []⟩]
def r42_11 : List XLine := [⟨⟨.mv (.slot 12), some 49, none⟩, []⟩,
  ⟨⟨.bin .eql 106 .num (.slot 49) (.const (.int .i64 (.ofNat 2))), some 50, none⟩, []⟩]
def r42_12 : List XLine := [⟨⟨.mv (.slot 0), some 51, none⟩, []⟩,
  ⟨⟨.mv (.slot 1), some 52, none⟩, []⟩,
  ⟨⟨.mv (.slot 2), some 53, none⟩, []⟩,
  ⟨⟨.call (.const (.func 69 [] [])) [(.slot 51), (.slot 52), (.slot 53)], some 54, none⟩, []⟩]
def r42_13 : List XLine := [⟨⟨.mv (.slot 2), some 55, none⟩, []⟩,
  ⟨⟨.bin .sub 3 .num (.slot 55) (.const (.int .i64 (.ofNat 1))), some 56, none⟩, []⟩,
  ⟨⟨.mv (.slot 11), some 57, none⟩, []⟩,
  ⟨⟨.mv (.slot 1), some 58, none⟩, []⟩,
  ⟨⟨.bin .sub 3 .num (.slot 57) (.slot 58), some 59, none⟩, []⟩,
  ⟨⟨.bin .sub 3 .num (.slot 56) (.slot 59), some 60, none⟩, []⟩,
  ⟨⟨.mv (.slot 60), some 11, none⟩, []⟩]
def r42_14 : List XLine := [⟨⟨.mv (.const (.int .i64 (.ofNat 1))), some 12, none⟩, []⟩]
def r42_15 : List XLine := [⟨⟨.mv (.slot 8), some 61, none⟩, []⟩,
  ⟨⟨.mv (.slot 61), some 62, none⟩, []⟩,
  ⟨⟨.mv (.slot 9), some 63, some (62, true)⟩, []⟩,
  ⟨⟨.pick (.slot 62) (.slot 63) (.const (.bool false)), some 64, none⟩, []⟩,
  ⟨⟨.mv (.slot 64), some 65, none⟩, []⟩,
  ⟨⟨.mv (.slot 12), some 66, some (65, true)⟩, []⟩,
  ⟨⟨.bin .eql 106 .num (.slot 66) (.const (.int .i64 (.ofNat 1))), some 67, some (65, true)⟩, []⟩,
  ⟨⟨.pick (.slot 65) (.slot 67) (.const (.bool false)), some 68, none⟩, []⟩]
def r42_16 : List XLine := [⟨⟨.mv (.slot 0), some 69, none⟩, []⟩,
  ⟨⟨.mv (.slot 1), some 70, none⟩, []⟩,
  ⟨⟨.mv (.slot 2), some 71, none⟩, []⟩,
  ⟨⟨.call (.const (.func 70 [] [])) [(.slot 69), (.slot 70), (.slot 71)], some 72, none⟩, []⟩]
def r42_17 : List XLine := [⟨⟨.mv (.slot 1), some 73, none⟩, []⟩,
  ⟨⟨.bin .gtr 3 .num (.slot 73) (.const (.int .i64 (.ofNat 0))), some 74, none⟩, []⟩,
  ⟨⟨.mv (.slot 74), some 75, none⟩, []⟩,
  ⟨⟨.mv (.slot 0), some 76, some (75, true)⟩, []⟩,
  ⟨⟨.mv (.slot 1), some 77, some (75, true)⟩, []⟩,
  ⟨⟨.bin .sub 3 .num (.slot 77) (.const (.int .i64 (.ofNat 1))), some 78, some (75, true)⟩, []⟩,
  ⟨⟨.iaddr 1 (.slot 76) (.slot 78), some 79, some (75, true)⟩, []⟩,
  ⟨⟨.load false 1 (.slot 79), some 80, some (75, true)⟩, []⟩,
  ⟨⟨.mv (.slot 0), some 81, some (75, true)⟩, []⟩,
  ⟨⟨.mv (.slot 11), some 82, some (75, true)⟩, []⟩,
  ⟨⟨.iaddr 1 (.slot 81) (.slot 82), some 83, some (75, true)⟩, []⟩,
  ⟨⟨.load false 1 (.slot 83), some 84, some (75, true)⟩, []⟩,
  ⟨⟨.call (.const (.func 71 [] [])) [(.slot 80), (.slot 84)], some 85, some (75, true)⟩, []⟩,
  ⟨⟨.un .not (.slot 85), some 86, some (75, true)⟩, []⟩,
  ⟨⟨.pick (.slot 75) (.slot 86) (.const (.bool false)), some 87, none⟩, []⟩]
def r42_18 : List XLine := [⟨⟨.mv (.slot 0), some 88, none⟩, []⟩,
  ⟨⟨.mv (.slot 1), some 89, none⟩, []⟩,
  ⟨⟨.mv (.slot 2), some 90, none⟩, []⟩,
  ⟨⟨.mv (.slot 11), some 91, none⟩, []⟩,
  ⟨⟨.call (.const (.func 72 [] [])) [(.slot 88), (.slot 89), (.slot 90), (.slot 91)], some 92, none⟩, []⟩,
  ⟨⟨.mv (.slot 92), some 13, none⟩, []⟩]
def r42_19 : List XLine := [⟨⟨.mv (.slot 13), some 93, none⟩, []⟩,
  ⟨⟨.mv (.slot 93), some 1, none⟩, []⟩]
def r42_20 : List XLine := [⟨⟨.mv (.slot 0), some 95, none⟩, []⟩,
  ⟨⟨.mv (.slot 1), some 96, none⟩, []⟩,
  ⟨⟨.mv (.slot 2), some 97, none⟩, []⟩,
  ⟨⟨.mv (.slot 11), some 98, none⟩, []⟩,
  ⟨⟨.call (.const (.func 73 [] [])) [(.slot 95), (.slot 96), (.slot 97), (.slot 98)], some 99, none⟩, []⟩,
  ⟨⟨.mv (.slot 99), some 94, none⟩, []⟩,
  ⟨⟨.extract (.slot 94) 0, some 100, none⟩, []⟩,
  ⟨⟨.extract (.slot 94) 1, some 101, none⟩, []⟩,
  ⟨⟨.mv (.slot 100), some 14, none⟩, []⟩,
  ⟨⟨.mv (.slot 101), some 15, none⟩, []⟩]
def r42_21 : List XLine := [⟨⟨.mv (.slot 15), some 102, none⟩, []⟩,
  ⟨⟨.mv (.slot 102), some 9, none⟩, []⟩]
def r42_22 : List XLine := [⟨⟨.mv (.slot 14), some 103, none⟩, []⟩,
  ⟨⟨.mv (.slot 1), some 104, none⟩, []⟩,
  ⟨⟨.bin .sub 3 .num (.slot 103) (.slot 104), some 105, none⟩, []⟩,
  ⟨⟨.mv (.slot 2), some 106, none⟩, []⟩,
  ⟨⟨.mv (.slot 14), some 107, none⟩, []⟩,
  ⟨⟨.bin .sub 3 .num (.slot 106) (.slot 107), some 108, none⟩, []⟩,
  ⟨⟨.mv (.slot 105), some 16, none⟩, []⟩,
  ⟨⟨.mv (.slot 108), some 17, none⟩, []⟩]
def r42_23 : List XLine := [⟨⟨.mv (.slot 10), some 109, none⟩, []⟩,
  ⟨⟨.bin .quo 3 .num (.slot 109) (.const (.int .i64 (.ofNat 8))), some 110, none⟩, []⟩,
  ⟨⟨.mv (.slot 110), some 18, none⟩, []⟩]
def r42_24 : List XLine := [⟨⟨.mv (.slot 16), some 111, none⟩, []⟩,
  ⟨⟨.mv (.slot 17), some 112, none⟩, []⟩,
  ⟨⟨.bin .lss 3 .num (.slot 111) (.slot 112), some 113, none⟩, []⟩]
def r42_25 : List XLine := [⟨⟨.mv (.slot 16), some 114, none⟩, []⟩,
  ⟨⟨.mv (.slot 18), some 115, none⟩, []⟩,
  ⟨⟨.bin .geq 3 .num (.slot 114) (.slot 115), some 116, none⟩, []⟩,
  ⟨⟨.mv (.slot 116), some 8, none⟩, []⟩]
def r42_26 : List XLine := [⟨⟨.mv (.slot 0), some 117, none⟩, []⟩,
  ⟨⟨.mv (.slot 1), some 118, none⟩, []⟩,
  ⟨⟨.mv (.slot 14), some 119, none⟩, []⟩,
  ⟨⟨.mv (.slot 3), some 120, none⟩, []⟩,
  ⟨⟨.call (.const (.func 42 [] [])) [(.slot 117), (.slot 118), (.slot 119), (.slot 120)], some 121, none⟩, []⟩]
def r42_27 : List XLine := [⟨⟨.mv (.slot 14), some 122, none⟩, []⟩,
  ⟨⟨.bin .add 3 .num (.slot 122) (.const (.int .i64 (.ofNat 1))), some 123, none⟩, []⟩,
  ⟨⟨.mv (.slot 123), some 1, none⟩, []⟩]
def r42_28 : List XLine := [⟨⟨.mv (.slot 17), some 124, none⟩, []⟩,
  ⟨⟨.mv (.slot 18), some 125, none⟩, []⟩,
  ⟨⟨.bin .geq 3 .num (.slot 124) (.slot 125), some 126, none⟩, []⟩,
  ⟨⟨.mv (.slot 126), some 8, none⟩, []⟩]
def r42_29 : List XLine := [⟨⟨.mv (.slot 0), some 127, none⟩, []⟩,
  ⟨⟨.mv (.slot 14), some 128, none⟩, []⟩,
  ⟨⟨.bin .add 3 .num (.slot 128) (.const (.int .i64 (.ofNat 1))), some 129, none⟩, []⟩,
  ⟨⟨.mv (.slot 2), some 130, none⟩, []⟩,
  ⟨⟨.mv (.slot 3), some 131, none⟩, []⟩,
  ⟨⟨.call (.const (.func 42 [] [])) [(.slot 127), (.slot 129), (.slot 130), (.slot 131)], some 132, none⟩, []⟩]
def r42_30 : List XLine := [⟨⟨.mv (.slot 14), some 133, none⟩, []⟩,
  ⟨⟨.mv (.slot 133), some 2, none⟩, []⟩]
def xf42 : XFunc := ⟨(.seq (.region false r42_0)
  (.seq (.region false r42_1)
  (.block 0 (.loop (.block 1 (.seq (.region false r42_2)
  (.seq (.seq (.region false r42_3)
  (.cond (.slot 23)
  (.seq (.region false r42_4)
  .ret)
  .skip))
  (.seq (.seq (.region false r42_5)
  (.cond (.slot 29)
  (.seq (.region false r42_6)
  .ret)
  .skip))
  (.seq (.seq (.region false r42_7)
  (.cond (.slot 35)
  (.seq (.region false r42_8)
  (.region false r42_9))
  .skip))
  (.seq (.region false r42_10)
  (.seq (.seq (.region false r42_11)
  (.cond (.slot 50)
  (.seq (.region false r42_12)
  (.seq (.region false r42_13)
  (.region false r42_14)))
  .skip))
  (.seq (.seq (.region false r42_15)
  (.cond (.slot 68)
  (.seq (.region false r42_16)
  (.cond (.slot 72)
  .ret
  .skip))
  .skip))
  (.seq (.seq (.region true r42_17)
  (.cond (.slot 87)
  (.seq (.region false r42_18)
  (.seq (.region false r42_19)
  (.exit 1)))
  .skip))
  (.seq (.region false r42_20)
  (.seq (.region false r42_21)
  (.seq (.region false r42_22)
  (.seq (.region false r42_23)
  (.seq (.region false r42_24)
  (.cond (.slot 113)
  (.seq (.region false r42_25)
  (.seq (.region false r42_26)
  (.region false r42_27)))
  (.seq (.region false r42_28)
  (.seq (.region false r42_29)
  (.region false r42_30)))))))))))))))))))))),
  []⟩
theorem xf42_ok : compFunc Tryz.prog Tryz.f42 = some xf42 := by kernel_rfl
/- (*threshing/gates.finder).all$1 -/
def r43_0 : List XLine := [⟨⟨.box (.slot 0), some 2, none⟩, []⟩,
  ⟨⟨.mv (.const (.bool false)), some 3, none⟩, []⟩]
def r43_1 : List XLine := [⟨⟨.faddr 1 (.slot 2), some 4, none⟩, []⟩,
  ⟨⟨.load false 1 (.slot 4), some 5, none⟩, []⟩,
  ⟨⟨.load false 1 (.slot 1), some 6, none⟩, []⟩,
  ⟨⟨.call (.const (.func 44 [] [])) [(.slot 5), (.slot 6)], some 7, none⟩, []⟩,
  ⟨⟨.mv (.slot 7), some 3, none⟩, []⟩]
def xf43 : XFunc := ⟨(.seq (.region false r43_0)
  (.seq (.region false r43_1)
  .ret)),
  [.tmp 3]⟩
theorem xf43_ok : compFunc Tryz.prog Tryz.f43 = some xf43 := by kernel_rfl
/- threshing/cnf.Same -/
def r44_0 : List XLine := [⟨⟨.mv (.const (.bool false)), some 4, none⟩, []⟩]
def r44_1 : List XLine := [⟨⟨.mv (.slot 0), some 5, none⟩, []⟩,
  ⟨⟨.mv (.slot 1), some 6, none⟩, []⟩,
  ⟨⟨.call (.const (.func 74 [] [])) [(.slot 5), (.slot 6)], some 7, none⟩, []⟩,
  ⟨⟨.mv (.slot 7), some 8, none⟩, []⟩,
  ⟨⟨.mv (.slot 1), some 9, some (8, true)⟩, []⟩,
  ⟨⟨.mv (.slot 0), some 10, some (8, true)⟩, []⟩,
  ⟨⟨.call (.const (.func 74 [] [])) [(.slot 9), (.slot 10)], some 11, some (8, true)⟩, []⟩,
  ⟨⟨.pick (.slot 8) (.slot 11) (.const (.bool false)), some 12, none⟩, []⟩,
  ⟨⟨.mv (.slot 12), some 4, none⟩, []⟩]
def xf44 : XFunc := ⟨(.seq (.region false r44_0)
  (.seq (.region false r44_1)
  .ret)),
  [.tmp 4]⟩
theorem xf44_ok : compFunc Tryz.prog Tryz.f44 = some xf44 := by kernel_rfl
/- slices.IndexFunc[[]threshing/api.Entry,threshing/api.Entry] -/
def r45_0 : List XLine := [⟨⟨.mv (.const (.int .i64 (.ofNat 0))), some 4, none⟩, []⟩]
def r45_1 : List XLine := [⟨⟨.mv (.slot 0), some 6, none⟩, []⟩,
  ⟨⟨.len .slice (.slot 6), some 7, none⟩, []⟩,
  ⟨⟨.mv (.const (.int .i64 (.ofNat 0))), some 8, none⟩, []⟩]
def r45_2 : List XLine := [⟨⟨.bin .lss 3 .num (.slot 8) (.slot 7), some 9, none⟩, []⟩]
def r45_3 : List XLine := [⟨⟨.mv (.slot 8), some 10, none⟩, []⟩,
  ⟨⟨.mv (.slot 10), some 5, none⟩, []⟩]
def r45_4 : List XLine := [⟨⟨.mv (.slot 1), some 11, none⟩, []⟩,
  ⟨⟨.mv (.slot 0), some 12, none⟩, []⟩,
  ⟨⟨.mv (.slot 5), some 13, none⟩, []⟩,
  ⟨⟨.iaddr 3 (.slot 12) (.slot 13), some 14, none⟩, []⟩,
  ⟨⟨.load true 3 (.slot 14), some 15, none⟩, []⟩,
  ⟨⟨.call (.slot 11) [(.slot 15)], some 16, none⟩, []⟩]
def r45_5 : List XLine := [⟨⟨.mv (.slot 5), some 17, none⟩, []⟩,
  ⟨⟨.mv (.slot 17), some 4, none⟩, []⟩]
def r45_6 : List XLine := [⟨⟨.bin .add 3 .num (.slot 8) (.const (.int .i64 (.ofNat 1))), some 18, none⟩, []⟩,
  ⟨⟨.mv (.slot 18), some 8, none⟩, []⟩]
def r45_7 : List XLine := [⟨⟨.mv (.const (.int .i64 (.negSucc 0))), some 4, none⟩, []⟩]
def xf45 : XFunc := ⟨(.seq (.region false r45_0)
  (.seq (.seq (.region false r45_1)
  (.block 0 (.loop (.seq (.region false r45_2)
  (.seq (.cond (.slot 9)
  .skip
  (.exit 0))
  (.seq (.block 1 (.seq (.region false r45_3)
  (.seq (.region false r45_4)
  (.cond (.slot 16)
  (.seq (.region false r45_5)
  .ret)
  .skip))))
  (.region false r45_6)))))))
  (.seq (.region false r45_7)
  .ret))),
  [.tmp 4]⟩
theorem xf45_ok : compFunc Tryz.prog Tryz.f45 = some xf45 := by kernel_rfl
/- slices.Clone[threshing/api.Clause,threshing/api.Lit] -/
def r46_0 : List XLine := [⟨⟨.mv (.const .nils), some 2, none⟩, []⟩]
def r46_1 : List XLine := [⟨⟨.mv (.slot 0), some 3, none⟩, []⟩,
  ⟨⟨.bin .eql 24 .slice (.slot 3) (.const .nils), some 4, none⟩, []⟩]
def r46_2 : List XLine := [⟨⟨.mv (.const .nils), some 2, none⟩, []⟩]
def r46_3 : List XLine := [⟨⟨.bslice 1 [] [] 0, some 5, none⟩, []⟩,
  ⟨⟨.mv (.slot 0), some 6, none⟩, []⟩,
  ⟨⟨.append 1 4 (.slot 5) (.slot 6), some 7, none⟩, []⟩,
  ⟨⟨.mv (.slot 7), some 2, none⟩, []⟩]
def xf46 : XFunc := ⟨(.seq (.region false r46_0)
  (.seq (.seq (.region false r46_1)
  (.cond (.slot 4)
  (.seq (.region false r46_2)
  .ret)
  .skip))
  (.seq (.region false r46_3)
  .ret))),
  [.tmp 2]⟩
theorem xf46_ok : compFunc Tryz.prog Tryz.f46 = some xf46 := by kernel_rfl
/- slices.SortFunc[threshing/api.Clause,threshing/api.Lit] -/
def r47_0 : List XLine := [⟨⟨.mv (.slot 0), some 5, none⟩, []⟩,
  ⟨⟨.len .slice (.slot 5), some 6, none⟩, []⟩,
  ⟨⟨.mv (.slot 6), some 4, none⟩, []⟩]
def r47_1 : List XLine := [⟨⟨.mv (.slot 0), some 7, none⟩, []⟩,
  ⟨⟨.mv (.slot 4), some 8, none⟩, []⟩,
  ⟨⟨.mv (.slot 4), some 9, none⟩, []⟩,
  ⟨⟨.conv .u64 (.slot 9), some 10, none⟩, []⟩,
  ⟨⟨.call (.const (.func 40 [] [])) [(.slot 10)], some 11, none⟩, []⟩,
  ⟨⟨.mv (.slot 1), some 12, none⟩, []⟩,
  ⟨⟨.call (.const (.func 75 [] [])) [(.slot 7), (.const (.int .i64 (.ofNat 0))), (.slot 8), (.slot 11), (.slot 12)], some 13, none⟩, []⟩]
def xf47 : XFunc := ⟨(.seq (.region false r47_0)
  (.region false r47_1)),
  []⟩
theorem xf47_ok : compFunc Tryz.prog Tryz.f47 = some xf47 := by kernel_rfl
/- threshing/cnf.order -/
def r48_0 : List XLine := [⟨⟨.mv (.const (.int .i64 (.ofNat 0))), some 4, none⟩, []⟩]
def r48_1 : List XLine := [⟨⟨.mv (.slot 0), some 5, none⟩, []⟩,
  ⟨⟨.call (.const (.func 9 [] [])) [(.slot 5)], some 6, none⟩, []⟩,
  ⟨⟨.mv (.slot 1), some 7, none⟩, []⟩,
  ⟨⟨.call (.const (.func 9 [] [])) [(.slot 7)], some 8, none⟩, []⟩,
  ⟨⟨.call (.const (.func 77 [] [])) [(.slot 6), (.slot 8)], some 9, none⟩, []⟩,
  ⟨⟨.mv (.slot 0), some 10, none⟩, []⟩,
  ⟨⟨.mv (.slot 1), some 11, none⟩, []⟩,
  ⟨⟨.call (.const (.func 78 [] [])) [(.slot 10), (.slot 11)], some 12, none⟩, []⟩,
  ⟨⟨.bslice 1 [(.int .i64 (.ofNat 0)), (.int .i64 (.ofNat 0))] [(0, 1, (.slot 9)), (1, 1, (.slot 12))] 2, some 13, none⟩, []⟩,
  ⟨⟨.call (.const (.func 76 [] [])) [(.slot 13)], some 14, none⟩, []⟩,
  ⟨⟨.mv (.slot 14), some 4, none⟩, []⟩]
def xf48 : XFunc := ⟨(.seq (.region false r48_0)
  (.seq (.region false r48_1)
  .ret)),
  [.tmp 4]⟩
theorem xf48_ok : compFunc Tryz.prog Tryz.f48 = some xf48 := by kernel_rfl
/- slices.Compact[threshing/api.Clause,threshing/api.Lit] -/
def r49_0 : List XLine := [⟨⟨.mv (.const .nils), some 2, none⟩, []⟩]
def r49_1 : List XLine := [⟨⟨.mv (.slot 0), some 6, none⟩, []⟩,
  ⟨⟨.len .slice (.slot 6), some 7, none⟩, []⟩,
  ⟨⟨.bin .lss 3 .num (.slot 7) (.const (.int .i64 (.ofNat 2))), some 8, none⟩, []⟩]
def r49_2 : List XLine := [⟨⟨.mv (.slot 0), some 9, none⟩, []⟩,
  ⟨⟨.mv (.slot 9), some 2, none⟩, []⟩]
def r49_3 : List XLine := [⟨⟨.mv (.const (.int .i64 (.ofNat 1))), some 3, none⟩, []⟩]
def r49_4 : List XLine := [⟨⟨.mv (.slot 3), some 10, none⟩, []⟩,
  ⟨⟨.mv (.slot 0), some 11, none⟩, []⟩,
  ⟨⟨.len .slice (.slot 11), some 12, none⟩, []⟩,
  ⟨⟨.bin .lss 3 .num (.slot 10) (.slot 12), some 13, none⟩, []⟩]
def r49_5 : List XLine := [⟨⟨.mv (.slot 0), some 16, none⟩, []⟩,
  ⟨⟨.mv (.slot 3), some 17, none⟩, []⟩,
  ⟨⟨.iaddr 1 (.slot 16) (.slot 17), some 18, none⟩, []⟩,
  ⟨⟨.load false 1 (.slot 18), some 19, none⟩, []⟩,
  ⟨⟨.mv (.slot 0), some 20, none⟩, []⟩,
  ⟨⟨.mv (.slot 3), some 21, none⟩, []⟩,
  ⟨⟨.bin .sub 3 .num (.slot 21) (.const (.int .i64 (.ofNat 1))), some 22, none⟩, []⟩,
  ⟨⟨.iaddr 1 (.slot 20) (.slot 22), some 23, none⟩, []⟩,
  ⟨⟨.load false 1 (.slot 23), some 24, none⟩, []⟩,
  ⟨⟨.bin .eql 22 .num (.slot 19) (.slot 24), some 25, none⟩, []⟩]
def r49_6 : List XLine := [⟨⟨.mv (.slot 0), some 26, none⟩, []⟩,
  ⟨⟨.mv (.slot 3), some 27, none⟩, []⟩,
  ⟨⟨.slc 1 (.slot 26) (some (.slot 27)) none none, some 28, none⟩, []⟩,
  ⟨⟨.mv (.slot 28), some 4, none⟩, []⟩]
def r49_7 : List XLine := [⟨⟨.mv (.const (.int .i64 (.ofNat 1))), some 5, none⟩, []⟩]
def r49_8 : List XLine := [⟨⟨.mv (.slot 5), some 29, none⟩, []⟩,
  ⟨⟨.mv (.slot 4), some 30, none⟩, []⟩,
  ⟨⟨.len .slice (.slot 30), some 31, none⟩, []⟩,
  ⟨⟨.bin .lss 3 .num (.slot 29) (.slot 31), some 32, none⟩, []⟩]
def r49_9 : List XLine := [⟨⟨.mv (.slot 4), some 35, none⟩, []⟩,
  ⟨⟨.mv (.slot 5), some 36, none⟩, []⟩,
  ⟨⟨.iaddr 1 (.slot 35) (.slot 36), some 37, none⟩, []⟩,
  ⟨⟨.load false 1 (.slot 37), some 38, none⟩, []⟩,
  ⟨⟨.mv (.slot 4), some 39, none⟩, []⟩,
  ⟨⟨.mv (.slot 5), some 40, none⟩, []⟩,
  ⟨⟨.bin .sub 3 .num (.slot 40) (.const (.int .i64 (.ofNat 1))), some 41, none⟩, []⟩,
  ⟨⟨.iaddr 1 (.slot 39) (.slot 41), some 42, none⟩, []⟩,
  ⟨⟨.load false 1 (.slot 42), some 43, none⟩, []⟩,
  ⟨⟨.bin .neq 22 .num (.slot 38) (.slot 43), some 44, none⟩, []⟩]
def r49_10 : List XLine := [⟨⟨.mv (.slot 0), some 45, none⟩, []⟩,
  ⟨⟨.mv (.slot 3), some 46, none⟩, []⟩,
  ⟨⟨.mv (.slot 4), some 47, none⟩, []⟩,
  ⟨⟨.mv (.slot 5), some 48, none⟩, []⟩,
  ⟨⟨.iaddr 1 (.slot 47) (.slot 48), some 49, none⟩, []⟩,
  ⟨⟨.load false 1 (.slot 49), some 50, none⟩, []⟩,
  ⟨⟨.iaddr 1 (.slot 45) (.slot 46), some 51, none⟩, []⟩,
  ⟨⟨.store 1 (.slot 51) (.slot 50), none, none⟩, []⟩]
def r49_11 : List XLine := [⟨⟨.mv (.slot 3), some 52, none⟩, []⟩,
  ⟨⟨.bin .add 3 .num (.slot 52) (.const (.int .i64 (.ofNat 1))), some 53, none⟩, []⟩,
  ⟨⟨.mv (.slot 53), some 3, none⟩, []⟩]
def r49_12 : List XLine := [⟨⟨.mv (.slot 5), some 33, none⟩, []⟩,
  ⟨⟨.bin .add 3 .num (.slot 33) (.const (.int .i64 (.ofNat 1))), some 34, none⟩, []⟩,
  ⟨⟨.mv (.slot 34), some 5, none⟩, []⟩]
def r49_13 : List XLine := [⟨⟨.mv (.slot 0), some 54, none⟩, []⟩,
  ⟨⟨.mv (.slot 3), some 55, none⟩, []⟩,
  ⟨⟨.slc 1 (.slot 54) (some (.slot 55)) none none, some 56, none⟩, []⟩,
  ⟨⟨.clear [(.int .i32 (.ofNat 0))] (.slot 56), none, none⟩, []⟩]
def r49_14 : List XLine := [⟨⟨.mv (.slot 0), some 57, none⟩, []⟩,
  ⟨⟨.mv (.slot 3), some 58, none⟩, []⟩,
  ⟨⟨.slc 1 (.slot 57) none (some (.slot 58)) none, some 59, none⟩, []⟩,
  ⟨⟨.mv (.slot 59), some 2, none⟩, []⟩]
def r49_15 : List XLine := [⟨⟨.mv (.slot 3), some 14, none⟩, []⟩,
  ⟨⟨.bin .add 3 .num (.slot 14) (.const (.int .i64 (.ofNat 1))), some 15, none⟩, []⟩,
  ⟨⟨.mv (.slot 15), some 3, none⟩, []⟩]
def r49_16 : List XLine := [⟨⟨.mv (.slot 0), some 60, none⟩, []⟩,
  ⟨⟨.mv (.slot 60), some 2, none⟩, []⟩]
def xf49 : XFunc := ⟨(.seq (.region false r49_0)
  (.seq (.seq (.region false r49_1)
  (.cond (.slot 8)
  (.seq (.region false r49_2)
  .ret)
  .skip))
  (.seq (.seq (.region false r49_3)
  (.block 0 (.loop (.seq (.seq (.region false r49_4)
  (.cond (.slot 13)
  .skip
  (.exit 0)))
  (.seq (.block 1 (.seq (.region true r49_5)
  (.cond (.slot 25)
  (.seq (.region false r49_6)
  (.seq (.seq (.region false r49_7)
  (.block 2 (.loop (.seq (.seq (.region false r49_8)
  (.cond (.slot 32)
  .skip
  (.exit 2)))
  (.seq (.block 3 (.seq (.region true r49_9)
  (.cond (.slot 44)
  (.seq (.region false r49_10)
  (.region false r49_11))
  .skip)))
  (.region false r49_12))))))
  (.seq (.region false r49_13)
  (.seq (.region false r49_14)
  .ret))))
  .skip)))
  (.region false r49_15))))))
  (.seq (.region false r49_16)
  .ret)))),
  [.tmp 2]⟩
theorem xf49_ok : compFunc Tryz.prog Tryz.f49 = some xf49 := by kernel_rfl
/- slices.Clip[threshing/api.Clause,threshing/api.Lit] -/
def r50_0 : List XLine := [⟨⟨.mv (.const .nils), some 2, none⟩, []⟩]
def r50_1 : List XLine := [⟨⟨.mv (.slot 0), some 3, none⟩, []⟩,
  ⟨⟨.mv (.slot 0), some 4, none⟩, []⟩,
  ⟨⟨.len .slice (.slot 4), some 5, none⟩, []⟩,
  ⟨⟨.mv (.slot 0), some 6, none⟩, []⟩,
  ⟨⟨.len .slice (.slot 6), some 7, none⟩, []⟩,
  ⟨⟨.slc 1 (.slot 3) none (some (.slot 5)) (some (.slot 7)), some 8, none⟩, []⟩,
  ⟨⟨.mv (.slot 8), some 2, none⟩, []⟩]
def xf50 : XFunc := ⟨(.seq (.region false r50_0)
  (.seq (.region false r50_1)
  .ret)),
  [.tmp 2]⟩
theorem xf50_ok : compFunc Tryz.prog Tryz.f50 = some xf50 := by kernel_rfl
/- slices.Index[threshing/api.Clause,threshing/api.Lit] -/
def r51_0 : List XLine := [⟨⟨.mv (.const (.int .i64 (.ofNat 0))), some 4, none⟩, []⟩]
def r51_1 : List XLine := [⟨⟨.mv (.slot 0), some 6, none⟩, []⟩,
  ⟨⟨.len .slice (.slot 6), some 7, none⟩, []⟩,
  ⟨⟨.mv (.const (.int .i64 (.ofNat 0))), some 8, none⟩, []⟩]
def r51_2 : List XLine := [⟨⟨.bin .lss 3 .num (.slot 8) (.slot 7), some 9, none⟩, []⟩]
def r51_3 : List XLine := [⟨⟨.mv (.slot 8), some 10, none⟩, []⟩,
  ⟨⟨.mv (.slot 10), some 5, none⟩, []⟩]
def r51_4 : List XLine := [⟨⟨.mv (.slot 1), some 11, none⟩, []⟩,
  ⟨⟨.mv (.slot 0), some 12, none⟩, []⟩,
  ⟨⟨.mv (.slot 5), some 13, none⟩, []⟩,
  ⟨⟨.iaddr 1 (.slot 12) (.slot 13), some 14, none⟩, []⟩,
  ⟨⟨.load false 1 (.slot 14), some 15, none⟩, []⟩,
  ⟨⟨.bin .eql 22 .num (.slot 11) (.slot 15), some 16, none⟩, []⟩]
def r51_5 : List XLine := [⟨⟨.mv (.slot 5), some 17, none⟩, []⟩,
  ⟨⟨.mv (.slot 17), some 4, none⟩, []⟩]
def r51_6 : List XLine := [⟨⟨.bin .add 3 .num (.slot 8) (.const (.int .i64 (.ofNat 1))), some 18, none⟩, []⟩,
  ⟨⟨.mv (.slot 18), some 8, none⟩, []⟩]
def r51_7 : List XLine := [⟨⟨.mv (.const (.int .i64 (.negSucc 0))), some 4, none⟩, []⟩]
def xf51 : XFunc := ⟨(.seq (.region false r51_0)
  (.seq (.seq (.region false r51_1)
  (.block 0 (.loop (.seq (.region false r51_2)
  (.seq (.cond (.slot 9)
  .skip
  (.exit 0))
  (.seq (.block 1 (.seq (.region false r51_3)
  (.seq (.region false r51_4)
  (.cond (.slot 16)
  (.seq (.region false r51_5)
  .ret)
  .skip))))
  (.region false r51_6)))))))
  (.seq (.region false r51_7)
  .ret))),
  [.tmp 4]⟩
theorem xf51_ok : compFunc Tryz.prog Tryz.f51 = some xf51 := by kernel_rfl
/- slices.Collect[int64] -/
def r52_0 : List XLine := [⟨⟨.mv (.const .nils), some 2, none⟩, []⟩]
def r52_1 : List XLine := [⟨⟨.mv (.slot 0), some 3, none⟩, []⟩,
  ⟨⟨.call (.const (.func 79 [] [])) [(.const .nils), (.slot 3)], some 4, none⟩, []⟩,
  ⟨⟨.mv (.slot 4), some 2, none⟩, []⟩]
def xf52 : XFunc := ⟨(.seq (.region false r52_0)
  (.seq (.region false r52_1)
  .ret)),
  [.tmp 2]⟩
theorem xf52_ok : compFunc Tryz.prog Tryz.f52 = some xf52 := by kernel_rfl
/- maps.Keys[map[int64]bool,int64,bool]$1 -/
def r53_0 : List XLine := [⟨⟨.load false 1 (.slot 1), some 4, none⟩, []⟩,
  ⟨⟨.range .i64 (.slot 4), some 5, none⟩, []⟩]
def r53_1 : List XLine := [⟨⟨.next (.slot 5), some 6, none⟩, []⟩,
  ⟨⟨.extract (.slot 6) 0, some 7, none⟩, []⟩]
def r53_2 : List XLine := [⟨⟨.entry (.slot 5), some 8, none⟩, []⟩,
  ⟨⟨.extract (.slot 8) 0, some 9, none⟩, []⟩,
  ⟨⟨.mv (.slot 9), some 3, none⟩, []⟩]
def r53_3 : List XLine := [⟨⟨.mv (.slot 0), some 10, none⟩, []⟩,
  ⟨⟨.mv (.slot 3), some 11, none⟩, []⟩,
  ⟨⟨.call (.slot 10) [(.slot 11)], some 12, none⟩, []⟩,
  ⟨⟨.un .not (.slot 12), some 13, none⟩, []⟩]
def xf53 : XFunc := ⟨(.seq (.region false r53_0)
  (.block 0 (.loop (.seq (.region false r53_1)
  (.seq (.cond (.slot 7)
  .skip
  (.exit 0))
  (.block 1 (.seq (.region false r53_2)
  (.seq (.region false r53_3)
  (.cond (.slot 13)
  .ret
  .skip))))))))),
  []⟩
theorem xf53_ok : compFunc Tryz.prog Tryz.f53 = some xf53 := by kernel_rfl
/- slices.insertionSortOrdered[int64] -/
def r54_0 : List XLine := [⟨⟨.mv (.slot 1), some 8, none⟩, []⟩,
  ⟨⟨.bin .add 3 .num (.slot 8) (.const (.int .i64 (.ofNat 1))), some 9, none⟩, []⟩,
  ⟨⟨.mv (.slot 9), some 6, none⟩, []⟩]
def r54_1 : List XLine := [⟨⟨.mv (.slot 6), some 10, none⟩, []⟩,
  ⟨⟨.mv (.slot 2), some 11, none⟩, []⟩,
  ⟨⟨.bin .lss 3 .num (.slot 10) (.slot 11), some 12, none⟩, []⟩]
def r54_2 : List XLine := [⟨⟨.mv (.slot 6), some 15, none⟩, []⟩,
  ⟨⟨.mv (.slot 15), some 7, none⟩, []⟩]
def r54_3 : List XLine := [⟨⟨.mv (.slot 7), some 16, none⟩, []⟩,
  ⟨⟨.mv (.slot 1), some 17, none⟩, []⟩,
  ⟨⟨.bin .gtr 3 .num (.slot 16) (.slot 17), some 18, none⟩, []⟩,
  ⟨⟨.mv (.slot 18), some 19, none⟩, []⟩,
  ⟨⟨.mv (.slot 0), some 20, some (19, true)⟩, []⟩,
  ⟨⟨.mv (.slot 7), some 21, some (19, true)⟩, []⟩,
  ⟨⟨.iaddr 1 (.slot 20) (.slot 21), some 22, some (19, true)⟩, []⟩,
  ⟨⟨.load false 1 (.slot 22), some 23, some (19, true)⟩, []⟩,
  ⟨⟨.mv (.slot 0), some 24, some (19, true)⟩, []⟩,
  ⟨⟨.mv (.slot 7), some 25, some (19, true)⟩, []⟩,
  ⟨⟨.bin .sub 3 .num (.slot 25) (.const (.int .i64 (.ofNat 1))), some 26, some (19, true)⟩, []⟩,
  ⟨⟨.iaddr 1 (.slot 24) (.slot 26), some 27, some (19, true)⟩, []⟩,
  ⟨⟨.load false 1 (.slot 27), some 28, some (19, true)⟩, []⟩,
  ⟨⟨.call (.const (.func 60 [] [])) [(.slot 23), (.slot 28)], some 29, some (19, true)⟩, []⟩,
  ⟨⟨.pick (.slot 19) (.slot 29) (.const (.bool false)), some 30, none⟩, []⟩]
def r54_4 : List XLine := [⟨⟨.mv (.slot 0), some 33, none⟩, []⟩,
  ⟨⟨.mv (.slot 7), some 34, none⟩, []⟩,
  ⟨⟨.mv (.slot 0), some 35, none⟩, []⟩,
  ⟨⟨.mv (.slot 7), some 36, none⟩, []⟩,
  ⟨⟨.bin .sub 3 .num (.slot 36) (.const (.int .i64 (.ofNat 1))), some 37, none⟩, []⟩,
  ⟨⟨.mv (.slot 0), some 38, none⟩, []⟩,
  ⟨⟨.mv (.slot 7), some 39, none⟩, []⟩,
  ⟨⟨.bin .sub 3 .num (.slot 39) (.const (.int .i64 (.ofNat 1))), some 40, none⟩, []⟩,
  ⟨⟨.iaddr 1 (.slot 38) (.slot 40), some 41, none⟩, []⟩,
  ⟨⟨.load false 1 (.slot 41), some 42, none⟩, []⟩,
  ⟨⟨.mv (.slot 0), some 43, none⟩, []⟩,
  ⟨⟨.mv (.slot 7), some 44, none⟩, []⟩,
  ⟨⟨.iaddr 1 (.slot 43) (.slot 44), some 45, none⟩, []⟩,
  ⟨⟨.load false 1 (.slot 45), some 46, none⟩, []⟩,
  ⟨⟨.iaddr 1 (.slot 33) (.slot 34), some 47, none⟩, []⟩,
  ⟨⟨.store 1 (.slot 47) (.slot 42), none, none⟩, []⟩,
  ⟨⟨.iaddr 1 (.slot 35) (.slot 37), some 48, none⟩, []⟩,
  ⟨⟨.store 1 (.slot 48) (.slot 46), none, none⟩, []⟩]
def r54_5 : List XLine := [⟨⟨.mv (.slot 7), some 31, none⟩, []⟩,
  ⟨⟨.bin .sub 3 .num (.slot 31) (.const (.int .i64 (.ofNat 1))), some 32, none⟩, []⟩,
  ⟨⟨.mv (.slot 32), some 7, none⟩, []⟩]
def r54_6 : List XLine := [⟨⟨.mv (.slot 6), some 13, none⟩, []⟩,
  ⟨⟨.bin .add 3 .num (.slot 13) (.const (.int .i64 (.ofNat 1))), some 14, none⟩, []⟩,
  ⟨⟨.mv (.slot 14), some 6, none⟩, []⟩]
def xf54 : XFunc := ⟨(.seq (.region false r54_0)
  (.block 0 (.loop (.seq (.seq (.region false r54_1)
  (.cond (.slot 12)
  .skip
  (.exit 0)))
  (.seq (.block 1 (.seq (.region false r54_2)
  (.block 2 (.loop (.seq (.seq (.region true r54_3)
  (.cond (.slot 30)
  .skip
  (.exit 2)))
  (.seq (.block 3 (.region true r54_4))
  (.region false r54_5)))))))
  (.region false r54_6)))))),
  []⟩
theorem xf54_ok : compFunc Tryz.prog Tryz.f54 = some xf54 := by kernel_rfl
/- slices.heapSortOrdered[int64] -/
def r55_0 : List XLine := [⟨⟨.mv (.slot 1), some 11, none⟩, []⟩,
  ⟨⟨.mv (.slot 11), some 6, none⟩, []⟩]
def r55_1 : List XLine := [⟨⟨.mv (.const (.int .i64 (.ofNat 0))), some 7, none⟩, []⟩]
def r55_2 : List XLine := [⟨⟨.mv (.slot 2), some 12, none⟩, []⟩,
  ⟨⟨.mv (.slot 1), some 13, none⟩, []⟩,
  ⟨⟨.bin .sub 3 .num (.slot 12) (.slot 13), some 14, none⟩, []⟩,
  ⟨⟨.mv (.slot 14), some 8, none⟩, []⟩]
def r55_3 : List XLine := [⟨⟨.mv (.slot 8), some 15, none⟩, []⟩,
  ⟨⟨.bin .sub 3 .num (.slot 15) (.const (.int .i64 (.ofNat 1))), some 16, none⟩, []⟩,
  ⟨⟨.bin .quo 3 .num (.slot 16) (.const (.int .i64 (.ofNat 2))), some 17, none⟩, []⟩,
  ⟨⟨.mv (.slot 17), some 9, none⟩, []⟩]
def r55_4 : List XLine := [⟨⟨.mv (.slot 9), some 18, none⟩, []⟩,
  ⟨⟨.bin .geq 3 .num (.slot 18) (.const (.int .i64 (.ofNat 0))), some 19, none⟩, []⟩]
def r55_5 : List XLine := [⟨⟨.mv (.slot 0), some 22, none⟩, []⟩,
  ⟨⟨.mv (.slot 9), some 23, none⟩, []⟩,
  ⟨⟨.mv (.slot 8), some 24, none⟩, []⟩,
  ⟨⟨.mv (.slot 6), some 25, none⟩, []⟩,
  ⟨⟨.call (.const (.func 80 [] [])) [(.slot 22), (.slot 23), (.slot 24), (.slot 25)], some 26, none⟩, []⟩]
def r55_6 : List XLine := [⟨⟨.mv (.slot 9), some 20, none⟩, []⟩,
  ⟨⟨.bin .sub 3 .num (.slot 20) (.const (.int .i64 (.ofNat 1))), some 21, none⟩, []⟩,
  ⟨⟨.mv (.slot 21), some 9, none⟩, []⟩]
def r55_7 : List XLine := [⟨⟨.mv (.slot 8), some 27, none⟩, []⟩,
  ⟨⟨.bin .sub 3 .num (.slot 27) (.const (.int .i64 (.ofNat 1))), some 28, none⟩, []⟩,
  ⟨⟨.mv (.slot 28), some 10, none⟩, []⟩]
def r55_8 : List XLine := [⟨⟨.mv (.slot 10), some 29, none⟩, []⟩,
  ⟨⟨.bin .geq 3 .num (.slot 29) (.const (.int .i64 (.ofNat 0))), some 30, none⟩, []⟩]
def r55_9 : List XLine := [⟨⟨.mv (.slot 0), some 33, none⟩, []⟩,
  ⟨⟨.mv (.slot 6), some 34, none⟩, []⟩,
  ⟨⟨.mv (.slot 0), some 35, none⟩, []⟩,
  ⟨⟨.mv (.slot 6), some 36, none⟩, []⟩,
  ⟨⟨.mv (.slot 10), some 37, none⟩, []⟩,
  ⟨⟨.bin .add 3 .num (.slot 36) (.slot 37), some 38, none⟩, []⟩,
  ⟨⟨.mv (.slot 0), some 39, none⟩, []⟩,
  ⟨⟨.mv (.slot 6), some 40, none⟩, []⟩,
  ⟨⟨.mv (.slot 10), some 41, none⟩, []⟩,
  ⟨⟨.bin .add 3 .num (.slot 40) (.slot 41), some 42, none⟩, []⟩,
  ⟨⟨.iaddr 1 (.slot 39) (.slot 42), some 43, none⟩, []⟩,
  ⟨⟨.load false 1 (.slot 43), some 44, none⟩, []⟩,
  ⟨⟨.mv (.slot 0), some 45, none⟩, []⟩,
  ⟨⟨.mv (.slot 6), some 46, none⟩, []⟩,
  ⟨⟨.iaddr 1 (.slot 45) (.slot 46), some 47, none⟩, []⟩,
  ⟨⟨.load false 1 (.slot 47), some 48, none⟩, []⟩,
  ⟨⟨.iaddr 1 (.slot 33) (.slot 34), some 49, none⟩, []⟩,
  ⟨⟨.store 1 (.slot 49) (.slot 44), none, none⟩, []⟩,
  ⟨⟨.iaddr 1 (.slot 35) (.slot 38), some 50, none⟩, []⟩,
  ⟨⟨.store 1 (.slot 50) (.slot 48), none, none⟩, []⟩]
def r55_10 : List XLine := [⟨⟨.mv (.slot 0), some 51, none⟩, []⟩,
  ⟨⟨.mv (.slot 7), some 52, none⟩, []⟩,
  ⟨⟨.mv (.slot 10), some 53, none⟩, []⟩,
  ⟨⟨.mv (.slot 6), some 54, none⟩, []⟩,
  ⟨⟨.call (.const (.func 80 [] [])) [(.slot 51), (.slot 52), (.slot 53), (.slot 54)], some 55, none⟩, []⟩]
def r55_11 : List XLine := [⟨⟨.mv (.slot 10), some 31, none⟩, []⟩,
  ⟨⟨.bin .sub 3 .num (.slot 31) (.const (.int .i64 (.ofNat 1))), some 32, none⟩, []⟩,
  ⟨⟨.mv (.slot 32), some 10, none⟩, []⟩]
def xf55 : XFunc := ⟨(.seq (.region false r55_0)
  (.seq (.region false r55_1)
  (.seq (.region false r55_2)
  (.seq (.seq (.region false r55_3)
  (.block 0 (.loop (.seq (.seq (.region false r55_4)
  (.cond (.slot 19)
  .skip
  (.exit 0)))
  (.seq (.block 1 (.region false r55_5))
  (.region false r55_6))))))
  (.seq (.region false r55_7)
  (.block 2 (.loop (.seq (.seq (.region false r55_8)
  (.cond (.slot 30)
  .skip
  (.exit 2)))
  (.seq (.block 3 (.seq (.region true r55_9)
  (.region false r55_10)))
  (.region false r55_11)))))))))),
  []⟩
theorem xf55_ok : compFunc Tryz.prog Tryz.f55 = some xf55 := by kernel_rfl
/- slices.breakPatternsOrdered[int64] -/
def r56_0 : List XLine := [⟨⟨.mv (.slot 2), some 11, none⟩, []⟩,
  ⟨⟨.mv (.slot 1), some 12, none⟩, []⟩,
  ⟨⟨.bin .sub 3 .num (.slot 11) (.slot 12), some 13, none⟩, []⟩,
  ⟨⟨.mv (.slot 13), some 6, none⟩, []⟩]
def r56_1 : List XLine := [⟨⟨.mv (.slot 6), some 14, none⟩, []⟩,
  ⟨⟨.bin .geq 3 .num (.slot 14) (.const (.int .i64 (.ofNat 8))), some 15, none⟩, []⟩]
def r56_2 : List XLine := [⟨⟨.mv (.slot 6), some 16, none⟩, []⟩,
  ⟨⟨.conv .u64 (.slot 16), some 17, none⟩, []⟩,
  ⟨⟨.alloc [(.int .u64 (.ofNat 0))], some 7, none⟩, []⟩,
  ⟨⟨.store 1 (.slot 7) (.slot 17), none, none⟩, []⟩]
def r56_3 : List XLine := [⟨⟨.mv (.slot 6), some 18, none⟩, []⟩,
  ⟨⟨.call (.const (.func 81 [] [])) [(.slot 18)], some 19, none⟩, []⟩,
  ⟨⟨.mv (.slot 19), some 8, none⟩, []⟩]
def r56_4 : List XLine := [⟨⟨.mv (.slot 1), some 20, none⟩, []⟩,
  ⟨⟨.mv (.slot 6), some 21, none⟩, []⟩,
  ⟨⟨.bin .quo 3 .num (.slot 21) (.const (.int .i64 (.ofNat 4))), some 22, none⟩, []⟩,
  ⟨⟨.bin .mul 3 .num (.slot 22) (.const (.int .i64 (.ofNat 2))), some 23, none⟩, []⟩,
  ⟨⟨.bin .add 3 .num (.slot 20) (.slot 23), some 24, none⟩, []⟩,
  ⟨⟨.bin .sub 3 .num (.slot 24) (.const (.int .i64 (.ofNat 1))), some 25, none⟩, []⟩,
  ⟨⟨.mv (.slot 25), some 9, none⟩, []⟩]
def r56_5 : List XLine := [⟨⟨.mv (.slot 9), some 26, none⟩, []⟩,
  ⟨⟨.mv (.slot 1), some 27, none⟩, []⟩,
  ⟨⟨.mv (.slot 6), some 28, none⟩, []⟩,
  ⟨⟨.bin .quo 3 .num (.slot 28) (.const (.int .i64 (.ofNat 4))), some 29, none⟩, []⟩,
  ⟨⟨.bin .mul 3 .num (.slot 29) (.const (.int .i64 (.ofNat 2))), some 30, none⟩, []⟩,
  ⟨⟨.bin .add 3 .num (.slot 27) (.slot 30), some 31, none⟩, []⟩,
  ⟨⟨.bin .add 3 .num (.slot 31) (.const (.int .i64 (.ofNat 1))), some 32, none⟩, []⟩,
  ⟨⟨.bin .leq 3 .num (.slot 26) (.slot 32), some 33, none⟩, []⟩]
def r56_6 : List XLine := [⟨⟨.call (.const (.func 82 [] [])) [(.slot 7)], some 36, none⟩, []⟩,
  ⟨⟨.mv (.slot 8), some 37, none⟩, []⟩,
  ⟨⟨.bin .sub 95 .num (.slot 37) (.const (.int .u64 (.ofNat 1))), some 38, none⟩, []⟩,
  ⟨⟨.bin .and 95 .num (.slot 36) (.slot 38), some 39, none⟩, []⟩,
  ⟨⟨.conv .i64 (.slot 39), some 40, none⟩, []⟩,
  ⟨⟨.mv (.slot 40), some 10, none⟩, []⟩]
def r56_7 : List XLine := [⟨⟨.mv (.slot 10), some 41, none⟩, []⟩,
  ⟨⟨.mv (.slot 6), some 42, none⟩, []⟩,
  ⟨⟨.bin .geq 3 .num (.slot 41) (.slot 42), some 43, none⟩, []⟩]
def r56_8 : List XLine := [⟨⟨.mv (.slot 10), some 44, none⟩, []⟩,
  ⟨⟨.mv (.slot 6), some 45, none⟩, []⟩,
  ⟨⟨.bin .sub 3 .num (.slot 44) (.slot 45), some 46, none⟩, []⟩,
  ⟨⟨.mv (.slot 46), some 10, none⟩, []⟩]
def r56_9 : List XLine := [⟨⟨.mv (.slot 0), some 47, none⟩, []⟩,
  ⟨⟨.mv (.slot 9), some 48, none⟩, []⟩,
  ⟨⟨.mv (.slot 0), some 49, none⟩, []⟩,
  ⟨⟨.mv (.slot 1), some 50, none⟩, []⟩,
  ⟨⟨.mv (.slot 10), some 51, none⟩, []⟩,
  ⟨⟨.bin .add 3 .num (.slot 50) (.slot 51), some 52, none⟩, []⟩,
  ⟨⟨.mv (.slot 0), some 53, none⟩, []⟩,
  ⟨⟨.mv (.slot 1), some 54, none⟩, []⟩,
  ⟨⟨.mv (.slot 10), some 55, none⟩, []⟩,
  ⟨⟨.bin .add 3 .num (.slot 54) (.slot 55), some 56, none⟩, []⟩,
  ⟨⟨.iaddr 1 (.slot 53) (.slot 56), some 57, none⟩, []⟩,
  ⟨⟨.load false 1 (.slot 57), some 58, none⟩, []⟩,
  ⟨⟨.mv (.slot 0), some 59, none⟩, []⟩,
  ⟨⟨.mv (.slot 9), some 60, none⟩, []⟩,
  ⟨⟨.iaddr 1 (.slot 59) (.slot 60), some 61, none⟩, []⟩,
  ⟨⟨.load false 1 (.slot 61), some 62, none⟩, []⟩,
  ⟨⟨.iaddr 1 (.slot 47) (.slot 48), some 63, none⟩, []⟩,
  ⟨⟨.store 1 (.slot 63) (.slot 58), none, none⟩, []⟩,
  ⟨⟨.iaddr 1 (.slot 49) (.slot 52), some 64, none⟩, []⟩,
  ⟨⟨.store 1 (.slot 64) (.slot 62), none, none⟩, []⟩]
def r56_10 : List XLine := [⟨⟨.mv (.slot 9), some 34, none⟩, []⟩,
  ⟨⟨.bin .add 3 .num (.slot 34) (.const (.int .i64 (.ofNat 1))), some 35, none⟩, []⟩,
  ⟨⟨.mv (.slot 35), some 9, none⟩, []⟩]
def xf56 : XFunc := ⟨(.seq (.region false r56_0)
  (.seq (.region false r56_1)
  (.cond (.slot 15)
  (.seq (.region false r56_2)
  (.seq (.region false r56_3)
  (.seq (.region false r56_4)
  (.block 0 (.loop (.seq (.seq (.region false r56_5)
  (.cond (.slot 33)
  .skip
  (.exit 0)))
  (.seq (.block 1 (.seq (.region false r56_6)
  (.seq (.seq (.region false r56_7)
  (.cond (.slot 43)
  (.region false r56_8)
  .skip))
  (.region true r56_9))))
  (.region false r56_10))))))))
  .skip))),
  []⟩
theorem xf56_ok : compFunc Tryz.prog Tryz.f56 = some xf56 := by kernel_rfl
/- slices.choosePivotOrdered[int64] -/
def r57_0 : List XLine := [⟨⟨.mv (.const (.int .i64 (.ofNat 0))), some 6, none⟩, []⟩,
  ⟨⟨.mv (.const (.int .i64 (.ofNat 0))), some 7, none⟩, []⟩]
def r57_1 : List XLine := [⟨⟨.mv (.slot 2), some 13, none⟩, []⟩,
  ⟨⟨.mv (.slot 1), some 14, none⟩, []⟩,
  ⟨⟨.bin .sub 3 .num (.slot 13) (.slot 14), some 15, none⟩, []⟩,
  ⟨⟨.mv (.slot 15), some 8, none⟩, []⟩]
def r57_2 : List XLine := [⟨⟨.alloc [(.int .i64 (.ofNat 0))], some 9, none⟩, []⟩]
def r57_3 : List XLine := [⟨⟨.mv (.slot 1), some 16, none⟩, []⟩,
  ⟨⟨.mv (.slot 8), some 17, none⟩, []⟩,
  ⟨⟨.bin .quo 3 .num (.slot 17) (.const (.int .i64 (.ofNat 4))), some 18, none⟩, []⟩,
  ⟨⟨.bin .mul 3 .num (.slot 18) (.const (.int .i64 (.ofNat 1))), some 19, none⟩, []⟩,
  ⟨⟨.bin .add 3 .num (.slot 16) (.slot 19), some 20, none⟩, []⟩,
  ⟨⟨.mv (.slot 20), some 10, none⟩, []⟩]
def r57_4 : List XLine := [⟨⟨.mv (.slot 1), some 21, none⟩, []⟩,
  ⟨⟨.mv (.slot 8), some 22, none⟩, []⟩,
  ⟨⟨.bin .quo 3 .num (.slot 22) (.const (.int .i64 (.ofNat 4))), some 23, none⟩, []⟩,
  ⟨⟨.bin .mul 3 .num (.slot 23) (.const (.int .i64 (.ofNat 2))), some 24, none⟩, []⟩,
  ⟨⟨.bin .add 3 .num (.slot 21) (.slot 24), some 25, none⟩, []⟩,
  ⟨⟨.mv (.slot 25), some 11, none⟩, []⟩]
def r57_5 : List XLine := [⟨⟨.mv (.slot 1), some 26, none⟩, []⟩,
  ⟨⟨.mv (.slot 8), some 27, none⟩, []⟩,
  ⟨⟨.bin .quo 3 .num (.slot 27) (.const (.int .i64 (.ofNat 4))), some 28, none⟩, []⟩,
  ⟨⟨.bin .mul 3 .num (.slot 28) (.const (.int .i64 (.ofNat 3))), some 29, none⟩, []⟩,
  ⟨⟨.bin .add 3 .num (.slot 26) (.slot 29), some 30, none⟩, []⟩,
  ⟨⟨.mv (.slot 30), some 12, none⟩, []⟩]
def r57_6 : List XLine := [⟨⟨.mv (.slot 8), some 31, none⟩, []⟩,
  ⟨⟨.bin .geq 3 .num (.slot 31) (.const (.int .i64 (.ofNat 8))), some 32, none⟩, []⟩]
def r57_7 : List XLine := [⟨⟨.mv (.slot 8), some 33, none⟩, []⟩,
  ⟨⟨.bin .geq 3 .num (.slot 33) (.const (.int .i64 (.ofNat 50))), some 34, none⟩, []⟩]
def r57_8 : List XLine := [⟨⟨.mv (.slot 0), some 35, none⟩, []⟩,
  ⟨⟨.mv (.slot 10), some 36, none⟩, []⟩,
  ⟨⟨.call (.const (.func 83 [] [])) [(.slot 35), (.slot 36), (.slot 9)], some 37, none⟩, []⟩,
  ⟨⟨.mv (.slot 37), some 10, none⟩, []⟩]
def r57_9 : List XLine := [⟨⟨.mv (.slot 0), some 38, none⟩, []⟩,
  ⟨⟨.mv (.slot 11), some 39, none⟩, []⟩,
  ⟨⟨.call (.const (.func 83 [] [])) [(.slot 38), (.slot 39), (.slot 9)], some 40, none⟩, []⟩,
  ⟨⟨.mv (.slot 40), some 11, none⟩, []⟩]
def r57_10 : List XLine := [⟨⟨.mv (.slot 0), some 41, none⟩, []⟩,
  ⟨⟨.mv (.slot 12), some 42, none⟩, []⟩,
  ⟨⟨.call (.const (.func 83 [] [])) [(.slot 41), (.slot 42), (.slot 9)], some 43, none⟩, []⟩,
  ⟨⟨.mv (.slot 43), some 12, none⟩, []⟩]
def r57_11 : List XLine := [⟨⟨.mv (.slot 0), some 44, none⟩, []⟩,
  ⟨⟨.mv (.slot 10), some 45, none⟩, []⟩,
  ⟨⟨.mv (.slot 11), some 46, none⟩, []⟩,
  ⟨⟨.mv (.slot 12), some 47, none⟩, []⟩,
  ⟨⟨.call (.const (.func 84 [] [])) [(.slot 44), (.slot 45), (.slot 46), (.slot 47), (.slot 9)], some 48, none⟩, []⟩,
  ⟨⟨.mv (.slot 48), some 11, none⟩, []⟩]
def r57_12 : List XLine := [⟨⟨.load false 1 (.slot 9), some 49, none⟩, []⟩]
def r57_13 : List XLine := [⟨⟨.bin .eql 3 .num (.slot 49) (.const (.int .i64 (.ofNat 0))), some 52, none⟩, []⟩,
  ⟨⟨.mv (.slot 52), some 51, none⟩, []⟩]
def r57_14 : List XLine := [⟨⟨.mv (.slot 11), some 53, none⟩, []⟩,
  ⟨⟨.mv (.slot 53), some 6, none⟩, []⟩,
  ⟨⟨.mv (.const (.int .i64 (.ofNat 1))), some 7, none⟩, []⟩]
def r57_15 : List XLine := [⟨⟨.bin .eql 3 .num (.slot 49) (.const (.int .i64 (.ofNat 12))), some 55, none⟩, []⟩,
  ⟨⟨.mv (.slot 55), some 54, none⟩, []⟩]
def r57_16 : List XLine := [⟨⟨.mv (.slot 11), some 56, none⟩, []⟩,
  ⟨⟨.mv (.slot 56), some 6, none⟩, []⟩,
  ⟨⟨.mv (.const (.int .i64 (.ofNat 2))), some 7, none⟩, []⟩]
def r57_17 : List XLine := [⟨⟨.mv (.slot 11), some 50, none⟩, []⟩,
  ⟨⟨.mv (.slot 50), some 6, none⟩, []⟩,
  ⟨⟨.mv (.const (.int .i64 (.ofNat 0))), some 7, none⟩, []⟩]
def xf57 : XFunc := ⟨(.seq (.region false r57_0)
  (.seq (.region false r57_1)
  (.seq (.region false r57_2)
  (.seq (.region false r57_3)
  (.seq (.region false r57_4)
  (.seq (.region false r57_5)
  (.seq (.seq (.region false r57_6)
  (.cond (.slot 32)
  (.seq (.seq (.region false r57_7)
  (.cond (.slot 34)
  (.seq (.region false r57_8)
  (.seq (.region false r57_9)
  (.region false r57_10)))
  .skip))
  (.region false r57_11))
  .skip))
  (.seq (.region false r57_12)
  (.block 0 (.seq (.region false r57_13)
  (.cond (.slot 51)
  (.seq (.region false r57_14)
  .ret)
  (.seq (.region false r57_15)
  (.cond (.slot 54)
  (.seq (.region false r57_16)
  .ret)
  (.seq (.region false r57_17)
  .ret)))))))))))))),
  [.tmp 6, .tmp 7]⟩
theorem xf57_ok : compFunc Tryz.prog Tryz.f57 = some xf57 := by kernel_rfl
/- slices.reverseRangeOrdered[int64] -/
def r58_0 : List XLine := [⟨⟨.mv (.slot 1), some 8, none⟩, []⟩,
  ⟨⟨.mv (.slot 8), some 6, none⟩, []⟩]
def r58_1 : List XLine := [⟨⟨.mv (.slot 2), some 9, none⟩, []⟩,
  ⟨⟨.bin .sub 3 .num (.slot 9) (.const (.int .i64 (.ofNat 1))), some 10, none⟩, []⟩,
  ⟨⟨.mv (.slot 10), some 7, none⟩, []⟩]
def r58_2 : List XLine := [⟨⟨.mv (.slot 6), some 11, none⟩, []⟩,
  ⟨⟨.mv (.slot 7), some 12, none⟩, []⟩,
  ⟨⟨.bin .lss 3 .num (.slot 11) (.slot 12), some 13, none⟩, []⟩]
def r58_3 : List XLine := [⟨⟨.mv (.slot 0), some 14, none⟩, []⟩,
  ⟨⟨.mv (.slot 6), some 15, none⟩, []⟩,
  ⟨⟨.mv (.slot 0), some 16, none⟩, []⟩,
  ⟨⟨.mv (.slot 7), some 17, none⟩, []⟩,
  ⟨⟨.mv (.slot 0), some 18, none⟩, []⟩,
  ⟨⟨.mv (.slot 7), some 19, none⟩, []⟩,
  ⟨⟨.iaddr 1 (.slot 18) (.slot 19), some 20, none⟩, []⟩,
  ⟨⟨.load false 1 (.slot 20), some 21, none⟩, []⟩,
  ⟨⟨.mv (.slot 0), some 22, none⟩, []⟩,
  ⟨⟨.mv (.slot 6), some 23, none⟩, []⟩,
  ⟨⟨.iaddr 1 (.slot 22) (.slot 23), some 24, none⟩, []⟩,
  ⟨⟨.load false 1 (.slot 24), some 25, none⟩, []⟩,
  ⟨⟨.iaddr 1 (.slot 14) (.slot 15), some 26, none⟩, []⟩,
  ⟨⟨.store 1 (.slot 26) (.slot 21), none, none⟩, []⟩,
  ⟨⟨.iaddr 1 (.slot 16) (.slot 17), some 27, none⟩, []⟩,
  ⟨⟨.store 1 (.slot 27) (.slot 25), none, none⟩, []⟩]
def r58_4 : List XLine := [⟨⟨.mv (.slot 6), some 28, none⟩, []⟩,
  ⟨⟨.bin .add 3 .num (.slot 28) (.const (.int .i64 (.ofNat 1))), some 29, none⟩, []⟩,
  ⟨⟨.mv (.slot 29), some 6, none⟩, []⟩]
def r58_5 : List XLine := [⟨⟨.mv (.slot 7), some 30, none⟩, []⟩,
  ⟨⟨.bin .sub 3 .num (.slot 30) (.const (.int .i64 (.ofNat 1))), some 31, none⟩, []⟩,
  ⟨⟨.mv (.slot 31), some 7, none⟩, []⟩]
def xf58 : XFunc := ⟨(.seq (.region false r58_0)
  (.seq (.region false r58_1)
  (.block 0 (.loop (.seq (.seq (.region false r58_2)
  (.cond (.slot 13)
  .skip
  (.exit 0)))
  (.block 1 (.seq (.region true r58_3)
  (.seq (.region false r58_4)
  (.region false r58_5))))))))),
  []⟩
theorem xf58_ok : compFunc Tryz.prog Tryz.f58 = some xf58 := by kernel_rfl
/- slices.partialInsertionSortOrdered[int64] -/
def r59_0 : List XLine := [⟨⟨.mv (.const (.bool false)), some 6, none⟩, []⟩]
def r59_1 : List XLine := [⟨⟨.mv (.slot 1), some 11, none⟩, []⟩,
  ⟨⟨.bin .add 3 .num (.slot 11) (.const (.int .i64 (.ofNat 1))), some 12, none⟩, []⟩,
  ⟨⟨.mv (.slot 12), some 7, none⟩, []⟩]
def r59_2 : List XLine := [⟨⟨.mv (.const (.int .i64 (.ofNat 0))), some 8, none⟩, []⟩]
def r59_3 : List XLine := [⟨⟨.mv (.slot 8), some 13, none⟩, []⟩,
  ⟨⟨.bin .lss 3 .num (.slot 13) (.const (.int .i64 (.ofNat 5))), some 14, none⟩, []⟩]
def r59_4 : List XLine := [⟨⟨.mv (.slot 7), some 17, none⟩, []⟩,
  ⟨⟨.mv (.slot 2), some 18, none⟩, []⟩,
  ⟨⟨.bin .lss 3 .num (.slot 17) (.slot 18), some 19, none⟩, []⟩,
  ⟨⟨.mv (.slot 19), some 20, none⟩, []⟩,
  ⟨⟨.mv (.slot 0), some 21, some (20, true)⟩, []⟩,
  ⟨⟨.mv (.slot 7), some 22, some (20, true)⟩, []⟩,
  ⟨⟨.iaddr 1 (.slot 21) (.slot 22), some 23, some (20, true)⟩, []⟩,
  ⟨⟨.load false 1 (.slot 23), some 24, some (20, true)⟩, []⟩,
  ⟨⟨.mv (.slot 0), some 25, some (20, true)⟩, []⟩,
  ⟨⟨.mv (.slot 7), some 26, some (20, true)⟩, []⟩,
  ⟨⟨.bin .sub 3 .num (.slot 26) (.const (.int .i64 (.ofNat 1))), some 27, some (20, true)⟩, []⟩,
  ⟨⟨.iaddr 1 (.slot 25) (.slot 27), some 28, some (20, true)⟩, []⟩,
  ⟨⟨.load false 1 (.slot 28), some 29, some (20, true)⟩, []⟩,
  ⟨⟨.call (.const (.func 60 [] [])) [(.slot 24), (.slot 29)], some 30, some (20, true)⟩, []⟩,
  ⟨⟨.un .not (.slot 30), some 31, some (20, true)⟩, []⟩,
  ⟨⟨.pick (.slot 20) (.slot 31) (.const (.bool false)), some 32, none⟩, []⟩]
def r59_5 : List XLine := [⟨⟨.mv (.slot 7), some 33, none⟩, []⟩,
  ⟨⟨.bin .add 3 .num (.slot 33) (.const (.int .i64 (.ofNat 1))), some 34, none⟩, []⟩,
  ⟨⟨.mv (.slot 34), some 7, none⟩, []⟩]
def r59_6 : List XLine := [⟨⟨.mv (.slot 7), some 35, none⟩, []⟩,
  ⟨⟨.mv (.slot 2), some 36, none⟩, []⟩,
  ⟨⟨.bin .eql 3 .num (.slot 35) (.slot 36), some 37, none⟩, []⟩]
def r59_7 : List XLine := [⟨⟨.mv (.const (.bool true)), some 6, none⟩, []⟩]
def r59_8 : List XLine := [⟨⟨.mv (.slot 2), some 38, none⟩, []⟩,
  ⟨⟨.mv (.slot 1), some 39, none⟩, []⟩,
  ⟨⟨.bin .sub 3 .num (.slot 38) (.slot 39), some 40, none⟩, []⟩,
  ⟨⟨.bin .lss 3 .num (.slot 40) (.const (.int .i64 (.ofNat 50))), some 41, none⟩, []⟩]
def r59_9 : List XLine := [⟨⟨.mv (.const (.bool false)), some 6, none⟩, []⟩]
def r59_10 : List XLine := [⟨⟨.mv (.slot 0), some 42, none⟩, []⟩,
  ⟨⟨.mv (.slot 7), some 43, none⟩, []⟩,
  ⟨⟨.mv (.slot 0), some 44, none⟩, []⟩,
  ⟨⟨.mv (.slot 7), some 45, none⟩, []⟩,
  ⟨⟨.bin .sub 3 .num (.slot 45) (.const (.int .i64 (.ofNat 1))), some 46, none⟩, []⟩,
  ⟨⟨.mv (.slot 0), some 47, none⟩, []⟩,
  ⟨⟨.mv (.slot 7), some 48, none⟩, []⟩,
  ⟨⟨.bin .sub 3 .num (.slot 48) (.const (.int .i64 (.ofNat 1))), some 49, none⟩, []⟩,
  ⟨⟨.iaddr 1 (.slot 47) (.slot 49), some 50, none⟩, []⟩,
  ⟨⟨.load false 1 (.slot 50), some 51, none⟩, []⟩,
  ⟨⟨.mv (.slot 0), some 52, none⟩, []⟩,
  ⟨⟨.mv (.slot 7), some 53, none⟩, []⟩,
  ⟨⟨.iaddr 1 (.slot 52) (.slot 53), some 54, none⟩, []⟩,
  ⟨⟨.load false 1 (.slot 54), some 55, none⟩, []⟩,
  ⟨⟨.iaddr 1 (.slot 42) (.slot 43), some 56, none⟩, []⟩,
  ⟨⟨.store 1 (.slot 56) (.slot 51), none, none⟩, []⟩,
  ⟨⟨.iaddr 1 (.slot 44) (.slot 46), some 57, none⟩, []⟩,
  ⟨⟨.store 1 (.slot 57) (.slot 55), none, none⟩, []⟩]
def r59_11 : List XLine := [⟨⟨.mv (.slot 7), some 58, none⟩, []⟩,
  ⟨⟨.mv (.slot 1), some 59, none⟩, []⟩,
  ⟨⟨.bin .sub 3 .num (.slot 58) (.slot 59), some 60, none⟩, []⟩,
  ⟨⟨.bin .geq 3 .num (.slot 60) (.const (.int .i64 (.ofNat 2))), some 61, none⟩, []⟩]
def r59_12 : List XLine := [⟨⟨.mv (.slot 7), some 62, none⟩, []⟩,
  ⟨⟨.bin .sub 3 .num (.slot 62) (.const (.int .i64 (.ofNat 1))), some 63, none⟩, []⟩,
  ⟨⟨.mv (.slot 63), some 9, none⟩, []⟩]
def r59_13 : List XLine := [⟨⟨.mv (.slot 9), some 64, none⟩, []⟩,
  ⟨⟨.bin .geq 3 .num (.slot 64) (.const (.int .i64 (.ofNat 1))), some 65, none⟩, []⟩]
def r59_14 : List XLine := [⟨⟨.mv (.slot 0), some 68, none⟩, []⟩,
  ⟨⟨.mv (.slot 9), some 69, none⟩, []⟩,
  ⟨⟨.iaddr 1 (.slot 68) (.slot 69), some 70, none⟩, []⟩,
  ⟨⟨.load false 1 (.slot 70), some 71, none⟩, []⟩,
  ⟨⟨.mv (.slot 0), some 72, none⟩, []⟩,
  ⟨⟨.mv (.slot 9), some 73, none⟩, []⟩,
  ⟨⟨.bin .sub 3 .num (.slot 73) (.const (.int .i64 (.ofNat 1))), some 74, none⟩, []⟩,
  ⟨⟨.iaddr 1 (.slot 72) (.slot 74), some 75, none⟩, []⟩,
  ⟨⟨.load false 1 (.slot 75), some 76, none⟩, []⟩,
  ⟨⟨.call (.const (.func 60 [] [])) [(.slot 71), (.slot 76)], some 77, none⟩, []⟩,
  ⟨⟨.un .not (.slot 77), some 78, none⟩, []⟩]
def r59_15 : List XLine := [⟨⟨.mv (.slot 0), some 79, none⟩, []⟩,
  ⟨⟨.mv (.slot 9), some 80, none⟩, []⟩,
  ⟨⟨.mv (.slot 0), some 81, none⟩, []⟩,
  ⟨⟨.mv (.slot 9), some 82, none⟩, []⟩,
  ⟨⟨.bin .sub 3 .num (.slot 82) (.const (.int .i64 (.ofNat 1))), some 83, none⟩, []⟩,
  ⟨⟨.mv (.slot 0), some 84, none⟩, []⟩,
  ⟨⟨.mv (.slot 9), some 85, none⟩, []⟩,
  ⟨⟨.bin .sub 3 .num (.slot 85) (.const (.int .i64 (.ofNat 1))), some 86, none⟩, []⟩,
  ⟨⟨.iaddr 1 (.slot 84) (.slot 86), some 87, none⟩, []⟩,
  ⟨⟨.load false 1 (.slot 87), some 88, none⟩, []⟩,
  ⟨⟨.mv (.slot 0), some 89, none⟩, []⟩,
  ⟨⟨.mv (.slot 9), some 90, none⟩, []⟩,
  ⟨⟨.iaddr 1 (.slot 89) (.slot 90), some 91, none⟩, []⟩,
  ⟨⟨.load false 1 (.slot 91), some 92, none⟩, []⟩,
  ⟨⟨.iaddr 1 (.slot 79) (.slot 80), some 93, none⟩, []⟩,
  ⟨⟨.store 1 (.slot 93) (.slot 88), none, none⟩, []⟩,
  ⟨⟨.iaddr 1 (.slot 81) (.slot 83), some 94, none⟩, []⟩,
  ⟨⟨.store 1 (.slot 94) (.slot 92), none, none⟩, []⟩]
def r59_16 : List XLine := [⟨⟨.mv (.slot 9), some 66, none⟩, []⟩,
  ⟨⟨.bin .sub 3 .num (.slot 66) (.const (.int .i64 (.ofNat 1))), some 67, none⟩, []⟩,
  ⟨⟨.mv (.slot 67), some 9, none⟩, []⟩]
def r59_17 : List XLine := [⟨⟨.mv (.slot 2), some 95, none⟩, []⟩,
  ⟨⟨.mv (.slot 7), some 96, none⟩, []⟩,
  ⟨⟨.bin .sub 3 .num (.slot 95) (.slot 96), some 97, none⟩, []⟩,
  ⟨⟨.bin .geq 3 .num (.slot 97) (.const (.int .i64 (.ofNat 2))), some 98, none⟩, []⟩]
def r59_18 : List XLine := [⟨⟨.mv (.slot 7), some 99, none⟩, []⟩,
  ⟨⟨.bin .add 3 .num (.slot 99) (.const (.int .i64 (.ofNat 1))), some 100, none⟩, []⟩,
  ⟨⟨.mv (.slot 100), some 10, none⟩, []⟩]
def r59_19 : List XLine := [⟨⟨.mv (.slot 10), some 101, none⟩, []⟩,
  ⟨⟨.mv (.slot 2), some 102, none⟩, []⟩,
  ⟨⟨.bin .lss 3 .num (.slot 101) (.slot 102), some 103, none⟩, []⟩]
def r59_20 : List XLine := [⟨⟨.mv (.slot 0), some 106, none⟩, []⟩,
  ⟨⟨.mv (.slot 10), some 107, none⟩, []⟩,
  ⟨⟨.iaddr 1 (.slot 106) (.slot 107), some 108, none⟩, []⟩,
  ⟨⟨.load false 1 (.slot 108), some 109, none⟩, []⟩,
  ⟨⟨.mv (.slot 0), some 110, none⟩, []⟩,
  ⟨⟨.mv (.slot 10), some 111, none⟩, []⟩,
  ⟨⟨.bin .sub 3 .num (.slot 111) (.const (.int .i64 (.ofNat 1))), some 112, none⟩, []⟩,
  ⟨⟨.iaddr 1 (.slot 110) (.slot 112), some 113, none⟩, []⟩,
  ⟨⟨.load false 1 (.slot 113), some 114, none⟩, []⟩,
  ⟨⟨.call (.const (.func 60 [] [])) [(.slot 109), (.slot 114)], some 115, none⟩, []⟩,
  ⟨⟨.un .not (.slot 115), some 116, none⟩, []⟩]
def r59_21 : List XLine := [⟨⟨.mv (.slot 0), some 117, none⟩, []⟩,
  ⟨⟨.mv (.slot 10), some 118, none⟩, []⟩,
  ⟨⟨.mv (.slot 0), some 119, none⟩, []⟩,
  ⟨⟨.mv (.slot 10), some 120, none⟩, []⟩,
  ⟨⟨.bin .sub 3 .num (.slot 120) (.const (.int .i64 (.ofNat 1))), some 121, none⟩, []⟩,
  ⟨⟨.mv (.slot 0), some 122, none⟩, []⟩,
  ⟨⟨.mv (.slot 10), some 123, none⟩, []⟩,
  ⟨⟨.bin .sub 3 .num (.slot 123) (.const (.int .i64 (.ofNat 1))), some 124, none⟩, []⟩,
  ⟨⟨.iaddr 1 (.slot 122) (.slot 124), some 125, none⟩, []⟩,
  ⟨⟨.load false 1 (.slot 125), some 126, none⟩, []⟩,
  ⟨⟨.mv (.slot 0), some 127, none⟩, []⟩,
  ⟨⟨.mv (.slot 10), some 128, none⟩, []⟩,
  ⟨⟨.iaddr 1 (.slot 127) (.slot 128), some 129, none⟩, []⟩,
  ⟨⟨.load false 1 (.slot 129), some 130, none⟩, []⟩,
  ⟨⟨.iaddr 1 (.slot 117) (.slot 118), some 131, none⟩, []⟩,
  ⟨⟨.store 1 (.slot 131) (.slot 126), none, none⟩, []⟩,
  ⟨⟨.iaddr 1 (.slot 119) (.slot 121), some 132, none⟩, []⟩,
  ⟨⟨.store 1 (.slot 132) (.slot 130), none, none⟩, []⟩]
def r59_22 : List XLine := [⟨⟨.mv (.slot 10), some 104, none⟩, []⟩,
  ⟨⟨.bin .add 3 .num (.slot 104) (.const (.int .i64 (.ofNat 1))), some 105, none⟩, []⟩,
  ⟨⟨.mv (.slot 105), some 10, none⟩, []⟩]
def r59_23 : List XLine := [⟨⟨.mv (.slot 8), some 15, none⟩, []⟩,
  ⟨⟨.bin .add 3 .num (.slot 15) (.const (.int .i64 (.ofNat 1))), some 16, none⟩, []⟩,
  ⟨⟨.mv (.slot 16), some 8, none⟩, []⟩]
def r59_24 : List XLine := [⟨⟨.mv (.const (.bool false)), some 6, none⟩, []⟩]
def xf59 : XFunc := ⟨(.seq (.region false r59_0)
  (.seq (.region false r59_1)
  (.seq (.seq (.region false r59_2)
  (.block 0 (.loop (.seq (.seq (.region false r59_3)
  (.cond (.slot 14)
  .skip
  (.exit 0)))
  (.seq (.block 1 (.seq (.block 2 (.loop (.seq (.seq (.region true r59_4)
  (.cond (.slot 32)
  .skip
  (.exit 2)))
  (.block 3 (.region false r59_5)))))
  (.seq (.seq (.region false r59_6)
  (.cond (.slot 37)
  (.seq (.region false r59_7)
  .ret)
  .skip))
  (.seq (.seq (.region false r59_8)
  (.cond (.slot 41)
  (.seq (.region false r59_9)
  .ret)
  .skip))
  (.seq (.region true r59_10)
  (.seq (.seq (.region false r59_11)
  (.cond (.slot 61)
  (.seq (.region false r59_12)
  (.block 4 (.loop (.seq (.seq (.region false r59_13)
  (.cond (.slot 65)
  .skip
  (.exit 4)))
  (.seq (.block 5 (.seq (.seq (.region true r59_14)
  (.cond (.slot 78)
  (.exit 4)
  .skip))
  (.region true r59_15)))
  (.region false r59_16))))))
  .skip))
  (.seq (.region false r59_17)
  (.cond (.slot 98)
  (.seq (.region false r59_18)
  (.block 6 (.loop (.seq (.seq (.region false r59_19)
  (.cond (.slot 103)
  .skip
  (.exit 6)))
  (.seq (.block 7 (.seq (.seq (.region true r59_20)
  (.cond (.slot 116)
  (.exit 6)
  .skip))
  (.region true r59_21)))
  (.region false r59_22))))))
  .skip))))))))
  (.region false r59_23))))))
  (.seq (.region false r59_24)
  .ret)))),
  [.tmp 6]⟩
theorem xf59_ok : compFunc Tryz.prog Tryz.f59 = some xf59 := by kernel_rfl
/- cmp.Less[int64] -/
def r60_0 : List XLine := [⟨⟨.mv (.const (.bool false)), some 4, none⟩, []⟩]
def r60_1 : List XLine := [⟨⟨.mv (.slot 0), some 5, none⟩, []⟩,
  ⟨⟨.call (.const (.func 85 [] [])) [(.slot 5)], some 6, none⟩, []⟩,
  ⟨⟨.mv (.slot 6), some 7, none⟩, []⟩,
  ⟨⟨.mv (.slot 1), some 8, some (7, true)⟩, []⟩,
  ⟨⟨.call (.const (.func 85 [] [])) [(.slot 8)], some 9, some (7, true)⟩, []⟩,
  ⟨⟨.un .not (.slot 9), some 10, some (7, true)⟩, []⟩,
  ⟨⟨.pick (.slot 7) (.slot 10) (.const (.bool false)), some 11, none⟩, []⟩,
  ⟨⟨.mv (.slot 11), some 12, none⟩, []⟩,
  ⟨⟨.mv (.slot 0), some 13, some (12, false)⟩, []⟩,
  ⟨⟨.mv (.slot 1), some 14, some (12, false)⟩, []⟩,
  ⟨⟨.bin .lss 2 .num (.slot 13) (.slot 14), some 15, some (12, false)⟩, []⟩,
  ⟨⟨.pick (.slot 12) (.const (.bool true)) (.slot 15), some 16, none⟩, []⟩,
  ⟨⟨.mv (.slot 16), some 4, none⟩, []⟩]
def xf60 : XFunc := ⟨(.seq (.region false r60_0)
  (.seq (.region false r60_1)
  .ret)),
  [.tmp 4]⟩
theorem xf60_ok : compFunc Tryz.prog Tryz.f60 = some xf60 := by kernel_rfl
/- slices.partitionEqualOrdered[int64] -/
def r61_0 : List XLine := [⟨⟨.mv (.const (.int .i64 (.ofNat 0))), some 8, none⟩, []⟩]
def r61_1 : List XLine := [⟨⟨.mv (.slot 0), some 11, none⟩, []⟩,
  ⟨⟨.mv (.slot 1), some 12, none⟩, []⟩,
  ⟨⟨.mv (.slot 0), some 13, none⟩, []⟩,
  ⟨⟨.mv (.slot 3), some 14, none⟩, []⟩,
  ⟨⟨.mv (.slot 0), some 15, none⟩, []⟩,
  ⟨⟨.mv (.slot 3), some 16, none⟩, []⟩,
  ⟨⟨.iaddr 1 (.slot 15) (.slot 16), some 17, none⟩, []⟩,
  ⟨⟨.load false 1 (.slot 17), some 18, none⟩, []⟩,
  ⟨⟨.mv (.slot 0), some 19, none⟩, []⟩,
  ⟨⟨.mv (.slot 1), some 20, none⟩, []⟩,
  ⟨⟨.iaddr 1 (.slot 19) (.slot 20), some 21, none⟩, []⟩,
  ⟨⟨.load false 1 (.slot 21), some 22, none⟩, []⟩,
  ⟨⟨.iaddr 1 (.slot 11) (.slot 12), some 23, none⟩, []⟩,
  ⟨⟨.store 1 (.slot 23) (.slot 18), none, none⟩, []⟩,
  ⟨⟨.iaddr 1 (.slot 13) (.slot 14), some 24, none⟩, []⟩,
  ⟨⟨.store 1 (.slot 24) (.slot 22), none, none⟩, []⟩]
def r61_2 : List XLine := [⟨⟨.mv (.slot 1), some 25, none⟩, []⟩,
  ⟨⟨.bin .add 3 .num (.slot 25) (.const (.int .i64 (.ofNat 1))), some 26, none⟩, []⟩,
  ⟨⟨.mv (.slot 2), some 27, none⟩, []⟩,
  ⟨⟨.bin .sub 3 .num (.slot 27) (.const (.int .i64 (.ofNat 1))), some 28, none⟩, []⟩,
  ⟨⟨.mv (.slot 26), some 9, none⟩, []⟩,
  ⟨⟨.mv (.slot 28), some 10, none⟩, []⟩]
def r61_3 : List XLine := [⟨⟨.mv (.slot 9), some 29, none⟩, []⟩,
  ⟨⟨.mv (.slot 10), some 30, none⟩, []⟩,
  ⟨⟨.bin .leq 3 .num (.slot 29) (.slot 30), some 31, none⟩, []⟩,
  ⟨⟨.mv (.slot 31), some 32, none⟩, []⟩,
  ⟨⟨.mv (.slot 0), some 33, some (32, true)⟩, []⟩,
  ⟨⟨.mv (.slot 1), some 34, some (32, true)⟩, []⟩,
  ⟨⟨.iaddr 1 (.slot 33) (.slot 34), some 35, some (32, true)⟩, []⟩,
  ⟨⟨.load false 1 (.slot 35), some 36, some (32, true)⟩, []⟩,
  ⟨⟨.mv (.slot 0), some 37, some (32, true)⟩, []⟩,
  ⟨⟨.mv (.slot 9), some 38, some (32, true)⟩, []⟩,
  ⟨⟨.iaddr 1 (.slot 37) (.slot 38), some 39, some (32, true)⟩, []⟩,
  ⟨⟨.load false 1 (.slot 39), some 40, some (32, true)⟩, []⟩,
  ⟨⟨.call (.const (.func 60 [] [])) [(.slot 36), (.slot 40)], some 41, some (32, true)⟩, []⟩,
  ⟨⟨.un .not (.slot 41), some 42, some (32, true)⟩, []⟩,
  ⟨⟨.pick (.slot 32) (.slot 42) (.const (.bool false)), some 43, none⟩, []⟩]
def r61_4 : List XLine := [⟨⟨.mv (.slot 9), some 44, none⟩, []⟩,
  ⟨⟨.bin .add 3 .num (.slot 44) (.const (.int .i64 (.ofNat 1))), some 45, none⟩, []⟩,
  ⟨⟨.mv (.slot 45), some 9, none⟩, []⟩]
def r61_5 : List XLine := [⟨⟨.mv (.slot 9), some 46, none⟩, []⟩,
  ⟨⟨.mv (.slot 10), some 47, none⟩, []⟩,
  ⟨⟨.bin .leq 3 .num (.slot 46) (.slot 47), some 48, none⟩, []⟩,
  ⟨⟨.mv (.slot 48), some 49, none⟩, []⟩,
  ⟨⟨.mv (.slot 0), some 50, some (49, true)⟩, []⟩,
  ⟨⟨.mv (.slot 1), some 51, some (49, true)⟩, []⟩,
  ⟨⟨.iaddr 1 (.slot 50) (.slot 51), some 52, some (49, true)⟩, []⟩,
  ⟨⟨.load false 1 (.slot 52), some 53, some (49, true)⟩, []⟩,
  ⟨⟨.mv (.slot 0), some 54, some (49, true)⟩, []⟩,
  ⟨⟨.mv (.slot 10), some 55, some (49, true)⟩, []⟩,
  ⟨⟨.iaddr 1 (.slot 54) (.slot 55), some 56, some (49, true)⟩, []⟩,
  ⟨⟨.load false 1 (.slot 56), some 57, some (49, true)⟩, []⟩,
  ⟨⟨.call (.const (.func 60 [] [])) [(.slot 53), (.slot 57)], some 58, some (49, true)⟩, []⟩,
  ⟨⟨.pick (.slot 49) (.slot 58) (.const (.bool false)), some 59, none⟩, []⟩]
def r61_6 : List XLine := [⟨⟨.mv (.slot 10), some 60, none⟩, []⟩,
  ⟨⟨.bin .sub 3 .num (.slot 60) (.const (.int .i64 (.ofNat 1))), some 61, none⟩, []⟩,
  ⟨⟨.mv (.slot 61), some 10, none⟩, []⟩]
def r61_7 : List XLine := [⟨⟨.mv (.slot 9), some 62, none⟩, []⟩,
  ⟨⟨.mv (.slot 10), some 63, none⟩, []⟩,
  ⟨⟨.bin .gtr 3 .num (.slot 62) (.slot 63), some 64, none⟩, []⟩]
def r61_8 : List XLine := [⟨⟨.mv (.slot 0), some 65, none⟩, []⟩,
  ⟨⟨.mv (.slot 9), some 66, none⟩, []⟩,
  ⟨⟨.mv (.slot 0), some 67, none⟩, []⟩,
  ⟨⟨.mv (.slot 10), some 68, none⟩, []⟩,
  ⟨⟨.mv (.slot 0), some 69, none⟩, []⟩,
  ⟨⟨.mv (.slot 10), some 70, none⟩, []⟩,
  ⟨⟨.iaddr 1 (.slot 69) (.slot 70), some 71, none⟩, []⟩,
  ⟨⟨.load false 1 (.slot 71), some 72, none⟩, []⟩,
  ⟨⟨.mv (.slot 0), some 73, none⟩, []⟩,
  ⟨⟨.mv (.slot 9), some 74, none⟩, []⟩,
  ⟨⟨.iaddr 1 (.slot 73) (.slot 74), some 75, none⟩, []⟩,
  ⟨⟨.load false 1 (.slot 75), some 76, none⟩, []⟩,
  ⟨⟨.iaddr 1 (.slot 65) (.slot 66), some 77, none⟩, []⟩,
  ⟨⟨.store 1 (.slot 77) (.slot 72), none, none⟩, []⟩,
  ⟨⟨.iaddr 1 (.slot 67) (.slot 68), some 78, none⟩, []⟩,
  ⟨⟨.store 1 (.slot 78) (.slot 76), none, none⟩, []⟩]
def r61_9 : List XLine := [⟨⟨.mv (.slot 9), some 79, none⟩, []⟩,
  ⟨⟨.bin .add 3 .num (.slot 79) (.const (.int .i64 (.ofNat 1))), some 80, none⟩, []⟩,
  ⟨⟨.mv (.slot 80), some 9, none⟩, []⟩]
def r61_10 : List XLine := [⟨⟨.mv (.slot 10), some 81, none⟩, []⟩,
  ⟨⟨.bin .sub 3 .num (.slot 81) (.const (.int .i64 (.ofNat 1))), some 82, none⟩, []⟩,
  ⟨⟨.mv (.slot 82), some 10, none⟩, []⟩]
def r61_11 : List XLine := [⟨⟨.mv (.slot 9), some 83, none⟩, []⟩,
  ⟨⟨.mv (.slot 83), some 8, none⟩, []⟩]
def xf61 : XFunc := ⟨(.seq (.region false r61_0)
  (.seq (.region true r61_1)
  (.seq (.region false r61_2)
  (.seq (.block 0 (.loop (.block 1 (.seq (.block 2 (.loop (.seq (.seq (.region true r61_3)
  (.cond (.slot 43)
  .skip
  (.exit 2)))
  (.block 3 (.region false r61_4)))))
  (.seq (.block 4 (.loop (.seq (.seq (.region true r61_5)
  (.cond (.slot 59)
  .skip
  (.exit 4)))
  (.block 5 (.region false r61_6)))))
  (.seq (.seq (.region false r61_7)
  (.cond (.slot 64)
  (.exit 0)
  .skip))
  (.seq (.region true r61_8)
  (.seq (.region false r61_9)
  (.region false r61_10)))))))))
  (.seq (.region false r61_11)
  .ret))))),
  [.tmp 8]⟩
theorem xf61_ok : compFunc Tryz.prog Tryz.f61 = some xf61 := by kernel_rfl
/- slices.partitionOrdered[int64] -/
def r62_0 : List XLine := [⟨⟨.mv (.const (.int .i64 (.ofNat 0))), some 8, none⟩, []⟩,
  ⟨⟨.mv (.const (.bool false)), some 9, none⟩, []⟩]
def r62_1 : List XLine := [⟨⟨.mv (.slot 0), some 12, none⟩, []⟩,
  ⟨⟨.mv (.slot 1), some 13, none⟩, []⟩,
  ⟨⟨.mv (.slot 0), some 14, none⟩, []⟩,
  ⟨⟨.mv (.slot 3), some 15, none⟩, []⟩,
  ⟨⟨.mv (.slot 0), some 16, none⟩, []⟩,
  ⟨⟨.mv (.slot 3), some 17, none⟩, []⟩,
  ⟨⟨.iaddr 1 (.slot 16) (.slot 17), some 18, none⟩, []⟩,
  ⟨⟨.load false 1 (.slot 18), some 19, none⟩, []⟩,
  ⟨⟨.mv (.slot 0), some 20, none⟩, []⟩,
  ⟨⟨.mv (.slot 1), some 21, none⟩, []⟩,
  ⟨⟨.iaddr 1 (.slot 20) (.slot 21), some 22, none⟩, []⟩,
  ⟨⟨.load false 1 (.slot 22), some 23, none⟩, []⟩,
  ⟨⟨.iaddr 1 (.slot 12) (.slot 13), some 24, none⟩, []⟩,
  ⟨⟨.store 1 (.slot 24) (.slot 19), none, none⟩, []⟩,
  ⟨⟨.iaddr 1 (.slot 14) (.slot 15), some 25, none⟩, []⟩,
  ⟨⟨.store 1 (.slot 25) (.slot 23), none, none⟩, []⟩]
def r62_2 : List XLine := [⟨⟨.mv (.slot 1), some 26, none⟩, []⟩,
  ⟨⟨.bin .add 3 .num (.slot 26) (.const (.int .i64 (.ofNat 1))), some 27, none⟩, []⟩,
  ⟨⟨.mv (.slot 2), some 28, none⟩, []⟩,
  ⟨⟨.bin .sub 3 .num (.slot 28) (.const (.int .i64 (.ofNat 1))), some 29, none⟩, []⟩,
  ⟨⟨.mv (.slot 27), some 10, none⟩, []⟩,
  ⟨⟨.mv (.slot 29), some 11, none⟩, []⟩]
def r62_3 : List XLine := [⟨⟨.mv (.slot 10), some 30, none⟩, []⟩,
  ⟨⟨.mv (.slot 11), some 31, none⟩, []⟩,
  ⟨⟨.bin .leq 3 .num (.slot 30) (.slot 31), some 32, none⟩, []⟩,
  ⟨⟨.mv (.slot 32), some 33, none⟩, []⟩,
  ⟨⟨.mv (.slot 0), some 34, some (33, true)⟩, []⟩,
  ⟨⟨.mv (.slot 10), some 35, some (33, true)⟩, []⟩,
  ⟨⟨.iaddr 1 (.slot 34) (.slot 35), some 36, some (33, true)⟩, []⟩,
  ⟨⟨.load false 1 (.slot 36), some 37, some (33, true)⟩, []⟩,
  ⟨⟨.mv (.slot 0), some 38, some (33, true)⟩, []⟩,
  ⟨⟨.mv (.slot 1), some 39, some (33, true)⟩, []⟩,
  ⟨⟨.iaddr 1 (.slot 38) (.slot 39), some 40, some (33, true)⟩, []⟩,
  ⟨⟨.load false 1 (.slot 40), some 41, some (33, true)⟩, []⟩,
  ⟨⟨.call (.const (.func 60 [] [])) [(.slot 37), (.slot 41)], some 42, some (33, true)⟩, []⟩,
  ⟨⟨.pick (.slot 33) (.slot 42) (.const (.bool false)), some 43, none⟩, []⟩]
def r62_4 : List XLine := [⟨⟨.mv (.slot 10), some 44, none⟩, []⟩,
  ⟨⟨.bin .add 3 .num (.slot 44) (.const (.int .i64 (.ofNat 1))), some 45, none⟩, []⟩,
  ⟨⟨.mv (.slot 45), some 10, none⟩, []⟩]
def r62_5 : List XLine := [⟨⟨.mv (.slot 10), some 46, none⟩, []⟩,
  ⟨⟨.mv (.slot 11), some 47, none⟩, []⟩,
  ⟨⟨.bin .leq 3 .num (.slot 46) (.slot 47), some 48, none⟩, []⟩,
  ⟨⟨.mv (.slot 48), some 49, none⟩, []⟩,
  ⟨⟨.mv (.slot 0), some 50, some (49, true)⟩, []⟩,
  ⟨⟨.mv (.slot 11), some 51, some (49, true)⟩, []⟩,
  ⟨⟨.iaddr 1 (.slot 50) (.slot 51), some 52, some (49, true)⟩, []⟩,
  ⟨⟨.load false 1 (.slot 52), some 53, some (49, true)⟩, []⟩,
  ⟨⟨.mv (.slot 0), some 54, some (49, true)⟩, []⟩,
  ⟨⟨.mv (.slot 1), some 55, some (49, true)⟩, []⟩,
  ⟨⟨.iaddr 1 (.slot 54) (.slot 55), some 56, some (49, true)⟩, []⟩,
  ⟨⟨.load false 1 (.slot 56), some 57, some (49, true)⟩, []⟩,
  ⟨⟨.call (.const (.func 60 [] [])) [(.slot 53), (.slot 57)], some 58, some (49, true)⟩, []⟩,
  ⟨⟨.un .not (.slot 58), some 59, some (49, true)⟩, []⟩,
  ⟨⟨.pick (.slot 49) (.slot 59) (.const (.bool false)), some 60, none⟩, []⟩]
def r62_6 : List XLine := [⟨⟨.mv (.slot 11), some 61, none⟩, []⟩,
  ⟨⟨.bin .sub 3 .num (.slot 61) (.const (.int .i64 (.ofNat 1))), some 62, none⟩, []⟩,
  ⟨⟨.mv (.slot 62), some 11, none⟩, []⟩]
def r62_7 : List XLine := [⟨⟨.mv (.slot 10), some 63, none⟩, []⟩,
  ⟨⟨.mv (.slot 11), some 64, none⟩, []⟩,
  ⟨⟨.bin .gtr 3 .num (.slot 63) (.slot 64), some 65, none⟩, []⟩]
def r62_8 : List XLine := [⟨⟨.mv (.slot 0), some 66, none⟩, []⟩,
  ⟨⟨.mv (.slot 11), some 67, none⟩, []⟩,
  ⟨⟨.mv (.slot 0), some 68, none⟩, []⟩,
  ⟨⟨.mv (.slot 1), some 69, none⟩, []⟩,
  ⟨⟨.mv (.slot 0), some 70, none⟩, []⟩,
  ⟨⟨.mv (.slot 1), some 71, none⟩, []⟩,
  ⟨⟨.iaddr 1 (.slot 70) (.slot 71), some 72, none⟩, []⟩,
  ⟨⟨.load false 1 (.slot 72), some 73, none⟩, []⟩,
  ⟨⟨.mv (.slot 0), some 74, none⟩, []⟩,
  ⟨⟨.mv (.slot 11), some 75, none⟩, []⟩,
  ⟨⟨.iaddr 1 (.slot 74) (.slot 75), some 76, none⟩, []⟩,
  ⟨⟨.load false 1 (.slot 76), some 77, none⟩, []⟩,
  ⟨⟨.iaddr 1 (.slot 66) (.slot 67), some 78, none⟩, []⟩,
  ⟨⟨.store 1 (.slot 78) (.slot 73), none, none⟩, []⟩,
  ⟨⟨.iaddr 1 (.slot 68) (.slot 69), some 79, none⟩, []⟩,
  ⟨⟨.store 1 (.slot 79) (.slot 77), none, none⟩, []⟩]
def r62_9 : List XLine := [⟨⟨.mv (.slot 11), some 80, none⟩, []⟩,
  ⟨⟨.mv (.slot 80), some 8, none⟩, []⟩,
  ⟨⟨.mv (.const (.bool true)), some 9, none⟩, []⟩]
def r62_10 : List XLine := [⟨⟨.mv (.slot 0), some 81, none⟩, []⟩,
  ⟨⟨.mv (.slot 10), some 82, none⟩, []⟩,
  ⟨⟨.mv (.slot 0), some 83, none⟩, []⟩,
  ⟨⟨.mv (.slot 11), some 84, none⟩, []⟩,
  ⟨⟨.mv (.slot 0), some 85, none⟩, []⟩,
  ⟨⟨.mv (.slot 11), some 86, none⟩, []⟩,
  ⟨⟨.iaddr 1 (.slot 85) (.slot 86), some 87, none⟩, []⟩,
  ⟨⟨.load false 1 (.slot 87), some 88, none⟩, []⟩,
  ⟨⟨.mv (.slot 0), some 89, none⟩, []⟩,
  ⟨⟨.mv (.slot 10), some 90, none⟩, []⟩,
  ⟨⟨.iaddr 1 (.slot 89) (.slot 90), some 91, none⟩, []⟩,
  ⟨⟨.load false 1 (.slot 91), some 92, none⟩, []⟩,
  ⟨⟨.iaddr 1 (.slot 81) (.slot 82), some 93, none⟩, []⟩,
  ⟨⟨.store 1 (.slot 93) (.slot 88), none, none⟩, []⟩,
  ⟨⟨.iaddr 1 (.slot 83) (.slot 84), some 94, none⟩, []⟩,
  ⟨⟨.store 1 (.slot 94) (.slot 92), none, none⟩, []⟩]
def r62_11 : List XLine := [⟨⟨.mv (.slot 10), some 95, none⟩, []⟩,
  ⟨⟨.bin .add 3 .num (.slot 95) (.const (.int .i64 (.ofNat 1))), some 96, none⟩, []⟩,
  ⟨⟨.mv (.slot 96), some 10, none⟩, []⟩]
def r62_12 : List XLine := [⟨⟨.mv (.slot 11), some 97, none⟩, []⟩,
  ⟨⟨.bin .sub 3 .num (.slot 97) (.const (.int .i64 (.ofNat 1))), some 98, none⟩, []⟩,
  ⟨⟨.mv (.slot 98), some 11, none⟩, []⟩]
def r62_13 : List XLine := [⟨⟨.mv (.slot 10), some 99, none⟩, []⟩,
  ⟨⟨.mv (.slot 11), some 100, none⟩, []⟩,
  ⟨⟨.bin .leq 3 .num (.slot 99) (.slot 100), some 101, none⟩, []⟩,
  ⟨⟨.mv (.slot 101), some 102, none⟩, []⟩,
  ⟨⟨.mv (.slot 0), some 103, some (102, true)⟩, []⟩,
  ⟨⟨.mv (.slot 10), some 104, some (102, true)⟩, []⟩,
  ⟨⟨.iaddr 1 (.slot 103) (.slot 104), some 105, some (102, true)⟩, []⟩,
  ⟨⟨.load false 1 (.slot 105), some 106, some (102, true)⟩, []⟩,
  ⟨⟨.mv (.slot 0), some 107, some (102, true)⟩, []⟩,
  ⟨⟨.mv (.slot 1), some 108, some (102, true)⟩, []⟩,
  ⟨⟨.iaddr 1 (.slot 107) (.slot 108), some 109, some (102, true)⟩, []⟩,
  ⟨⟨.load false 1 (.slot 109), some 110, some (102, true)⟩, []⟩,
  ⟨⟨.call (.const (.func 60 [] [])) [(.slot 106), (.slot 110)], some 111, some (102, true)⟩, []⟩,
  ⟨⟨.pick (.slot 102) (.slot 111) (.const (.bool false)), some 112, none⟩, []⟩]
def r62_14 : List XLine := [⟨⟨.mv (.slot 10), some 113, none⟩, []⟩,
  ⟨⟨.bin .add 3 .num (.slot 113) (.const (.int .i64 (.ofNat 1))), some 114, none⟩, []⟩,
  ⟨⟨.mv (.slot 114), some 10, none⟩, []⟩]
def r62_15 : List XLine := [⟨⟨.mv (.slot 10), some 115, none⟩, []⟩,
  ⟨⟨.mv (.slot 11), some 116, none⟩, []⟩,
  ⟨⟨.bin .leq 3 .num (.slot 115) (.slot 116), some 117, none⟩, []⟩,
  ⟨⟨.mv (.slot 117), some 118, none⟩, []⟩,
  ⟨⟨.mv (.slot 0), some 119, some (118, true)⟩, []⟩,
  ⟨⟨.mv (.slot 11), some 120, some (118, true)⟩, []⟩,
  ⟨⟨.iaddr 1 (.slot 119) (.slot 120), some 121, some (118, true)⟩, []⟩,
  ⟨⟨.load false 1 (.slot 121), some 122, some (118, true)⟩, []⟩,
  ⟨⟨.mv (.slot 0), some 123, some (118, true)⟩, []⟩,
  ⟨⟨.mv (.slot 1), some 124, some (118, true)⟩, []⟩,
  ⟨⟨.iaddr 1 (.slot 123) (.slot 124), some 125, some (118, true)⟩, []⟩,
  ⟨⟨.load false 1 (.slot 125), some 126, some (118, true)⟩, []⟩,
  ⟨⟨.call (.const (.func 60 [] [])) [(.slot 122), (.slot 126)], some 127, some (118, true)⟩, []⟩,
  ⟨⟨.un .not (.slot 127), some 128, some (118, true)⟩, []⟩,
  ⟨⟨.pick (.slot 118) (.slot 128) (.const (.bool false)), some 129, none⟩, []⟩]
def r62_16 : List XLine := [⟨⟨.mv (.slot 11), some 130, none⟩, []⟩,
  ⟨⟨.bin .sub 3 .num (.slot 130) (.const (.int .i64 (.ofNat 1))), some 131, none⟩, []⟩,
  ⟨⟨.mv (.slot 131), some 11, none⟩, []⟩]
def r62_17 : List XLine := [⟨⟨.mv (.slot 10), some 132, none⟩, []⟩,
  ⟨⟨.mv (.slot 11), some 133, none⟩, []⟩,
  ⟨⟨.bin .gtr 3 .num (.slot 132) (.slot 133), some 134, none⟩, []⟩]
def r62_18 : List XLine := [⟨⟨.mv (.slot 0), some 135, none⟩, []⟩,
  ⟨⟨.mv (.slot 10), some 136, none⟩, []⟩,
  ⟨⟨.mv (.slot 0), some 137, none⟩, []⟩,
  ⟨⟨.mv (.slot 11), some 138, none⟩, []⟩,
  ⟨⟨.mv (.slot 0), some 139, none⟩, []⟩,
  ⟨⟨.mv (.slot 11), some 140, none⟩, []⟩,
  ⟨⟨.iaddr 1 (.slot 139) (.slot 140), some 141, none⟩, []⟩,
  ⟨⟨.load false 1 (.slot 141), some 142, none⟩, []⟩,
  ⟨⟨.mv (.slot 0), some 143, none⟩, []⟩,
  ⟨⟨.mv (.slot 10), some 144, none⟩, []⟩,
  ⟨⟨.iaddr 1 (.slot 143) (.slot 144), some 145, none⟩, []⟩,
  ⟨⟨.load false 1 (.slot 145), some 146, none⟩, []⟩,
  ⟨⟨.iaddr 1 (.slot 135) (.slot 136), some 147, none⟩, []⟩,
  ⟨⟨.store 1 (.slot 147) (.slot 142), none, none⟩, []⟩,
  ⟨⟨.iaddr 1 (.slot 137) (.slot 138), some 148, none⟩, []⟩,
  ⟨⟨.store 1 (.slot 148) (.slot 146), none, none⟩, []⟩]
def r62_19 : List XLine := [⟨⟨.mv (.slot 10), some 149, none⟩, []⟩,
  ⟨⟨.bin .add 3 .num (.slot 149) (.const (.int .i64 (.ofNat 1))), some 150, none⟩, []⟩,
  ⟨⟨.mv (.slot 150), some 10, none⟩, []⟩]
def r62_20 : List XLine := [⟨⟨.mv (.slot 11), some 151, none⟩, []⟩,
  ⟨⟨.bin .sub 3 .num (.slot 151) (.const (.int .i64 (.ofNat 1))), some 152, none⟩, []⟩,
  ⟨⟨.mv (.slot 152), some 11, none⟩, []⟩]
def r62_21 : List XLine := [⟨⟨.mv (.slot 0), some 153, none⟩, []⟩,
  ⟨⟨.mv (.slot 11), some 154, none⟩, []⟩,
  ⟨⟨.mv (.slot 0), some 155, none⟩, []⟩,
  ⟨⟨.mv (.slot 1), some 156, none⟩, []⟩,
  ⟨⟨.mv (.slot 0), some 157, none⟩, []⟩,
  ⟨⟨.mv (.slot 1), some 158, none⟩, []⟩,
  ⟨⟨.iaddr 1 (.slot 157) (.slot 158), some 159, none⟩, []⟩,
  ⟨⟨.load false 1 (.slot 159), some 160, none⟩, []⟩,
  ⟨⟨.mv (.slot 0), some 161, none⟩, []⟩,
  ⟨⟨.mv (.slot 11), some 162, none⟩, []⟩,
  ⟨⟨.iaddr 1 (.slot 161) (.slot 162), some 163, none⟩, []⟩,
  ⟨⟨.load false 1 (.slot 163), some 164, none⟩, []⟩,
  ⟨⟨.iaddr 1 (.slot 153) (.slot 154), some 165, none⟩, []⟩,
  ⟨⟨.store 1 (.slot 165) (.slot 160), none, none⟩, []⟩,
  ⟨⟨.iaddr 1 (.slot 155) (.slot 156), some 166, none⟩, []⟩,
  ⟨⟨.store 1 (.slot 166) (.slot 164), none, none⟩, []⟩]
def r62_22 : List XLine := [⟨⟨.mv (.slot 11), some 167, none⟩, []⟩,
  ⟨⟨.mv (.slot 167), some 8, none⟩, []⟩,
  ⟨⟨.mv (.const (.bool false)), some 9, none⟩, []⟩]
def xf62 : XFunc := ⟨(.seq (.region false r62_0)
  (.seq (.region true r62_1)
  (.seq (.region false r62_2)
  (.seq (.block 0 (.loop (.seq (.seq (.region true r62_3)
  (.cond (.slot 43)
  .skip
  (.exit 0)))
  (.block 1 (.region false r62_4)))))
  (.seq (.block 2 (.loop (.seq (.seq (.region true r62_5)
  (.cond (.slot 60)
  .skip
  (.exit 2)))
  (.block 3 (.region false r62_6)))))
  (.seq (.seq (.region false r62_7)
  (.cond (.slot 65)
  (.seq (.region true r62_8)
  (.seq (.region false r62_9)
  .ret))
  .skip))
  (.seq (.region true r62_10)
  (.seq (.region false r62_11)
  (.seq (.region false r62_12)
  (.seq (.block 4 (.loop (.block 5 (.seq (.block 6 (.loop (.seq (.seq (.region true r62_13)
  (.cond (.slot 112)
  .skip
  (.exit 6)))
  (.block 7 (.region false r62_14)))))
  (.seq (.block 8 (.loop (.seq (.seq (.region true r62_15)
  (.cond (.slot 129)
  .skip
  (.exit 8)))
  (.block 9 (.region false r62_16)))))
  (.seq (.seq (.region false r62_17)
  (.cond (.slot 134)
  (.exit 4)
  .skip))
  (.seq (.region true r62_18)
  (.seq (.region false r62_19)
  (.region false r62_20)))))))))
  (.seq (.region true r62_21)
  (.seq (.region false r62_22)
  .ret)))))))))))),
  [.tmp 8, .tmp 9]⟩
theorem xf62_ok : compFunc Tryz.prog Tryz.f62 = some xf62 := by kernel_rfl
end Go.Proofs.YtpbijmmjcdejoaaGreat

/- The functions of the program in X's code, printed by a program of ours; each is what the program's own is turned to. -/
import Derived.Test.YtogolfiljijhlaaProg
import Derived.Test.YtogolfiljijhlaaW0
import Derived.KernelRfl
namespace Go.Proofs.Ytogolfiljijhlaa
open Go.Xr
/- slices.medianAdjacentCmpFunc[threshing/api.Lit] -/
def r94_0 : List XLine := [⟨⟨.mv (.const (.int .i64 (.ofNat 0))), some 8, none⟩, []⟩]
def r94_1 : List XLine := [⟨⟨.mv (.slot 0), some 9, none⟩, []⟩,
  ⟨⟨.mv (.slot 1), some 10, none⟩, []⟩,
  ⟨⟨.bin .sub 3 .num (.slot 10) (.const (.int .i64 (.ofNat 1))), some 11, none⟩, []⟩,
  ⟨⟨.mv (.slot 1), some 12, none⟩, []⟩,
  ⟨⟨.mv (.slot 1), some 13, none⟩, []⟩,
  ⟨⟨.bin .add 3 .num (.slot 13) (.const (.int .i64 (.ofNat 1))), some 14, none⟩, []⟩,
  ⟨⟨.mv (.slot 2), some 15, none⟩, []⟩,
  ⟨⟨.mv (.slot 3), some 16, none⟩, []⟩,
  ⟨⟨.call (.const (.func 95 [] [])) [(.slot 9), (.slot 11), (.slot 12), (.slot 14), (.slot 15), (.slot 16)], some 17, none⟩, []⟩,
  ⟨⟨.mv (.slot 17), some 8, none⟩, []⟩]
def xf94 : XFunc := ⟨(.seq (.region false r94_0)
  (.seq (.region false r94_1)
  .ret)),
  [.tmp 8]⟩
theorem xf94_ok : compFunc Try.prog Try.f94 = some xf94 := by kernel_rfl
/- slices.medianCmpFunc[threshing/api.Lit] -/
def r95_0 : List XLine := [⟨⟨.mv (.const (.int .i64 (.ofNat 0))), some 12, none⟩, []⟩]
def r95_1 : List XLine := [⟨⟨.mv (.slot 0), some 14, none⟩, []⟩,
  ⟨⟨.mv (.slot 1), some 15, none⟩, []⟩,
  ⟨⟨.mv (.slot 2), some 16, none⟩, []⟩,
  ⟨⟨.mv (.slot 4), some 17, none⟩, []⟩,
  ⟨⟨.mv (.slot 5), some 18, none⟩, []⟩,
  ⟨⟨.call (.const (.func 100 [] [])) [(.slot 14), (.slot 15), (.slot 16), (.slot 17), (.slot 18)], some 19, none⟩, []⟩,
  ⟨⟨.mv (.slot 19), some 13, none⟩, []⟩,
  ⟨⟨.extract (.slot 13) 0, some 20, none⟩, []⟩,
  ⟨⟨.extract (.slot 13) 1, some 21, none⟩, []⟩,
  ⟨⟨.mv (.slot 20), some 1, none⟩, []⟩,
  ⟨⟨.mv (.slot 21), some 2, none⟩, []⟩]
def r95_2 : List XLine := [⟨⟨.mv (.slot 0), some 23, none⟩, []⟩,
  ⟨⟨.mv (.slot 2), some 24, none⟩, []⟩,
  ⟨⟨.mv (.slot 3), some 25, none⟩, []⟩,
  ⟨⟨.mv (.slot 4), some 26, none⟩, []⟩,
  ⟨⟨.mv (.slot 5), some 27, none⟩, []⟩,
  ⟨⟨.call (.const (.func 100 [] [])) [(.slot 23), (.slot 24), (.slot 25), (.slot 26), (.slot 27)], some 28, none⟩, []⟩,
  ⟨⟨.mv (.slot 28), some 22, none⟩, []⟩,
  ⟨⟨.extract (.slot 22) 0, some 29, none⟩, []⟩,
  ⟨⟨.extract (.slot 22) 1, some 30, none⟩, []⟩,
  ⟨⟨.mv (.slot 29), some 2, none⟩, []⟩,
  ⟨⟨.mv (.slot 30), some 3, none⟩, []⟩]
def r95_3 : List XLine := [⟨⟨.mv (.slot 0), some 32, none⟩, []⟩,
  ⟨⟨.mv (.slot 1), some 33, none⟩, []⟩,
  ⟨⟨.mv (.slot 2), some 34, none⟩, []⟩,
  ⟨⟨.mv (.slot 4), some 35, none⟩, []⟩,
  ⟨⟨.mv (.slot 5), some 36, none⟩, []⟩,
  ⟨⟨.call (.const (.func 100 [] [])) [(.slot 32), (.slot 33), (.slot 34), (.slot 35), (.slot 36)], some 37, none⟩, []⟩,
  ⟨⟨.mv (.slot 37), some 31, none⟩, []⟩,
  ⟨⟨.extract (.slot 31) 0, some 38, none⟩, []⟩,
  ⟨⟨.extract (.slot 31) 1, some 39, none⟩, []⟩,
  ⟨⟨.mv (.slot 38), some 1, none⟩, []⟩,
  ⟨⟨.mv (.slot 39), some 2, none⟩, []⟩]
def r95_4 : List XLine := [⟨⟨.mv (.slot 2), some 40, none⟩, []⟩,
  ⟨⟨.mv (.slot 40), some 12, none⟩, []⟩]
def xf95 : XFunc := ⟨(.seq (.region false r95_0)
  (.seq (.region false r95_1)
  (.seq (.region false r95_2)
  (.seq (.region false r95_3)
  (.seq (.region false r95_4)
  .ret))))),
  [.tmp 12]⟩
theorem xf95_ok : compFunc Try.prog Try.f95 = some xf95 := by kernel_rfl
/- slices.siftDownOrdered[int64] -/
def r96_0 : List XLine := [⟨⟨.mv (.slot 1), some 10, none⟩, []⟩,
  ⟨⟨.mv (.slot 10), some 8, none⟩, []⟩]
def r96_1 : List XLine := [⟨⟨.mv (.slot 8), some 11, none⟩, []⟩,
  ⟨⟨.bin .mul 3 .num (.const (.int .i64 (.ofNat 2))) (.slot 11), some 12, none⟩, []⟩,
  ⟨⟨.bin .add 3 .num (.slot 12) (.const (.int .i64 (.ofNat 1))), some 13, none⟩, []⟩,
  ⟨⟨.mv (.slot 13), some 9, none⟩, []⟩]
def r96_2 : List XLine := [⟨⟨.mv (.slot 9), some 14, none⟩, []⟩,
  ⟨⟨.mv (.slot 2), some 15, none⟩, []⟩,
  ⟨⟨.bin .geq 3 .num (.slot 14) (.slot 15), some 16, none⟩, []⟩]
def r96_3 : List XLine := [⟨⟨.mv (.slot 9), some 17, none⟩, []⟩,
  ⟨⟨.bin .add 3 .num (.slot 17) (.const (.int .i64 (.ofNat 1))), some 18, none⟩, []⟩,
  ⟨⟨.mv (.slot 2), some 19, none⟩, []⟩,
  ⟨⟨.bin .lss 3 .num (.slot 18) (.slot 19), some 20, none⟩, []⟩,
  ⟨⟨.mv (.slot 20), some 21, none⟩, []⟩,
  ⟨⟨.mv (.slot 0), some 22, some (21, true)⟩, []⟩,
  ⟨⟨.mv (.slot 3), some 23, some (21, true)⟩, []⟩,
  ⟨⟨.mv (.slot 9), some 24, some (21, true)⟩, []⟩,
  ⟨⟨.bin .add 3 .num (.slot 23) (.slot 24), some 25, some (21, true)⟩, []⟩,
  ⟨⟨.iaddr 1 (.slot 22) (.slot 25), some 26, some (21, true)⟩, []⟩,
  ⟨⟨.load false 1 (.slot 26), some 27, some (21, true)⟩, []⟩,
  ⟨⟨.mv (.slot 0), some 28, some (21, true)⟩, []⟩,
  ⟨⟨.mv (.slot 3), some 29, some (21, true)⟩, []⟩,
  ⟨⟨.mv (.slot 9), some 30, some (21, true)⟩, []⟩,
  ⟨⟨.bin .add 3 .num (.slot 29) (.slot 30), some 31, some (21, true)⟩, []⟩,
  ⟨⟨.bin .add 3 .num (.slot 31) (.const (.int .i64 (.ofNat 1))), some 32, some (21, true)⟩, []⟩,
  ⟨⟨.iaddr 1 (.slot 28) (.slot 32), some 33, some (21, true)⟩, []⟩,
  ⟨⟨.load false 1 (.slot 33), some 34, some (21, true)⟩, []⟩,
  ⟨⟨.call (.const (.func 88 [] [])) [(.slot 27), (.slot 34)], some 35, some (21, true)⟩, []⟩,
  ⟨⟨.pick (.slot 21) (.slot 35) (.const (.bool false)), some 36, none⟩, []⟩]
def r96_4 : List XLine := [⟨⟨.mv (.slot 9), some 37, none⟩, []⟩,
  ⟨⟨.bin .add 3 .num (.slot 37) (.const (.int .i64 (.ofNat 1))), some 38, none⟩, []⟩,
  ⟨⟨.mv (.slot 38), some 9, none⟩, []⟩]
def r96_5 : List XLine := [⟨⟨.mv (.slot 0), some 39, none⟩, []⟩,
  ⟨⟨.mv (.slot 3), some 40, none⟩, []⟩,
  ⟨⟨.mv (.slot 8), some 41, none⟩, []⟩,
  ⟨⟨.bin .add 3 .num (.slot 40) (.slot 41), some 42, none⟩, []⟩,
  ⟨⟨.iaddr 1 (.slot 39) (.slot 42), some 43, none⟩, []⟩,
  ⟨⟨.load false 1 (.slot 43), some 44, none⟩, []⟩,
  ⟨⟨.mv (.slot 0), some 45, none⟩, []⟩,
  ⟨⟨.mv (.slot 3), some 46, none⟩, []⟩,
  ⟨⟨.mv (.slot 9), some 47, none⟩, []⟩,
  ⟨⟨.bin .add 3 .num (.slot 46) (.slot 47), some 48, none⟩, []⟩,
  ⟨⟨.iaddr 1 (.slot 45) (.slot 48), some 49, none⟩, []⟩,
  ⟨⟨.load false 1 (.slot 49), some 50, none⟩, []⟩,
  ⟨⟨.call (.const (.func 88 [] [])) [(.slot 44), (.slot 50)], some 51, none⟩, []⟩,
  ⟨⟨.un .not (.slot 51), some 52, none⟩, []⟩]
def r96_6 : List XLine := [⟨⟨.mv (.slot 0), some 53, none⟩, []⟩,
  ⟨⟨.mv (.slot 3), some 54, none⟩, []⟩,
  ⟨⟨.mv (.slot 8), some 55, none⟩, []⟩,
  ⟨⟨.bin .add 3 .num (.slot 54) (.slot 55), some 56, none⟩, []⟩,
  ⟨⟨.mv (.slot 0), some 57, none⟩, []⟩,
  ⟨⟨.mv (.slot 3), some 58, none⟩, []⟩,
  ⟨⟨.mv (.slot 9), some 59, none⟩, []⟩,
  ⟨⟨.bin .add 3 .num (.slot 58) (.slot 59), some 60, none⟩, []⟩,
  ⟨⟨.mv (.slot 0), some 61, none⟩, []⟩,
  ⟨⟨.mv (.slot 3), some 62, none⟩, []⟩,
  ⟨⟨.mv (.slot 9), some 63, none⟩, []⟩,
  ⟨⟨.bin .add 3 .num (.slot 62) (.slot 63), some 64, none⟩, []⟩,
  ⟨⟨.iaddr 1 (.slot 61) (.slot 64), some 65, none⟩, []⟩,
  ⟨⟨.load false 1 (.slot 65), some 66, none⟩, []⟩,
  ⟨⟨.mv (.slot 0), some 67, none⟩, []⟩,
  ⟨⟨.mv (.slot 3), some 68, none⟩, []⟩,
  ⟨⟨.mv (.slot 8), some 69, none⟩, []⟩,
  ⟨⟨.bin .add 3 .num (.slot 68) (.slot 69), some 70, none⟩, []⟩,
  ⟨⟨.iaddr 1 (.slot 67) (.slot 70), some 71, none⟩, []⟩,
  ⟨⟨.load false 1 (.slot 71), some 72, none⟩, []⟩,
  ⟨⟨.iaddr 1 (.slot 53) (.slot 56), some 73, none⟩, []⟩,
  ⟨⟨.store 1 (.slot 73) (.slot 66), none, none⟩, []⟩,
  ⟨⟨.iaddr 1 (.slot 57) (.slot 60), some 74, none⟩, []⟩,
  ⟨⟨.store 1 (.slot 74) (.slot 72), none, none⟩, []⟩]
def r96_7 : List XLine := [⟨⟨.mv (.slot 9), some 75, none⟩, []⟩,
  ⟨⟨.mv (.slot 75), some 8, none⟩, []⟩]
def xf96 : XFunc := ⟨(.seq (.region false r96_0)
  (.block 0 (.loop (.block 1 (.seq (.region false r96_1)
  (.seq (.seq (.region false r96_2)
  (.cond (.slot 16)
  (.exit 0)
  .skip))
  (.seq (.seq (.region true r96_3)
  (.cond (.slot 36)
  (.region false r96_4)
  .skip))
  (.seq (.seq (.region true r96_5)
  (.cond (.slot 52)
  .ret
  .skip))
  (.seq (.region true r96_6)
  (.region false r96_7)))))))))),
  []⟩
theorem xf96_ok : compFunc Try.prog Try.f96 = some xf96 := by kernel_rfl
/- slices.medianAdjacentOrdered[int64] -/
def r97_0 : List XLine := [⟨⟨.mv (.const (.int .i64 (.ofNat 0))), some 6, none⟩, []⟩]
def r97_1 : List XLine := [⟨⟨.mv (.slot 0), some 7, none⟩, []⟩,
  ⟨⟨.mv (.slot 1), some 8, none⟩, []⟩,
  ⟨⟨.bin .sub 3 .num (.slot 8) (.const (.int .i64 (.ofNat 1))), some 9, none⟩, []⟩,
  ⟨⟨.mv (.slot 1), some 10, none⟩, []⟩,
  ⟨⟨.mv (.slot 1), some 11, none⟩, []⟩,
  ⟨⟨.bin .add 3 .num (.slot 11) (.const (.int .i64 (.ofNat 1))), some 12, none⟩, []⟩,
  ⟨⟨.mv (.slot 2), some 13, none⟩, []⟩,
  ⟨⟨.call (.const (.func 98 [] [])) [(.slot 7), (.slot 9), (.slot 10), (.slot 12), (.slot 13)], some 14, none⟩, []⟩,
  ⟨⟨.mv (.slot 14), some 6, none⟩, []⟩]
def xf97 : XFunc := ⟨(.seq (.region false r97_0)
  (.seq (.region false r97_1)
  .ret)),
  [.tmp 6]⟩
theorem xf97_ok : compFunc Try.prog Try.f97 = some xf97 := by kernel_rfl
/- slices.medianOrdered[int64] -/
def r98_0 : List XLine := [⟨⟨.mv (.const (.int .i64 (.ofNat 0))), some 10, none⟩, []⟩]
def r98_1 : List XLine := [⟨⟨.mv (.slot 0), some 12, none⟩, []⟩,
  ⟨⟨.mv (.slot 1), some 13, none⟩, []⟩,
  ⟨⟨.mv (.slot 2), some 14, none⟩, []⟩,
  ⟨⟨.mv (.slot 4), some 15, none⟩, []⟩,
  ⟨⟨.call (.const (.func 101 [] [])) [(.slot 12), (.slot 13), (.slot 14), (.slot 15)], some 16, none⟩, []⟩,
  ⟨⟨.mv (.slot 16), some 11, none⟩, []⟩,
  ⟨⟨.extract (.slot 11) 0, some 17, none⟩, []⟩,
  ⟨⟨.extract (.slot 11) 1, some 18, none⟩, []⟩,
  ⟨⟨.mv (.slot 17), some 1, none⟩, []⟩,
  ⟨⟨.mv (.slot 18), some 2, none⟩, []⟩]
def r98_2 : List XLine := [⟨⟨.mv (.slot 0), some 20, none⟩, []⟩,
  ⟨⟨.mv (.slot 2), some 21, none⟩, []⟩,
  ⟨⟨.mv (.slot 3), some 22, none⟩, []⟩,
  ⟨⟨.mv (.slot 4), some 23, none⟩, []⟩,
  ⟨⟨.call (.const (.func 101 [] [])) [(.slot 20), (.slot 21), (.slot 22), (.slot 23)], some 24, none⟩, []⟩,
  ⟨⟨.mv (.slot 24), some 19, none⟩, []⟩,
  ⟨⟨.extract (.slot 19) 0, some 25, none⟩, []⟩,
  ⟨⟨.extract (.slot 19) 1, some 26, none⟩, []⟩,
  ⟨⟨.mv (.slot 25), some 2, none⟩, []⟩,
  ⟨⟨.mv (.slot 26), some 3, none⟩, []⟩]
def r98_3 : List XLine := [⟨⟨.mv (.slot 0), some 28, none⟩, []⟩,
  ⟨⟨.mv (.slot 1), some 29, none⟩, []⟩,
  ⟨⟨.mv (.slot 2), some 30, none⟩, []⟩,
  ⟨⟨.mv (.slot 4), some 31, none⟩, []⟩,
  ⟨⟨.call (.const (.func 101 [] [])) [(.slot 28), (.slot 29), (.slot 30), (.slot 31)], some 32, none⟩, []⟩,
  ⟨⟨.mv (.slot 32), some 27, none⟩, []⟩,
  ⟨⟨.extract (.slot 27) 0, some 33, none⟩, []⟩,
  ⟨⟨.extract (.slot 27) 1, some 34, none⟩, []⟩,
  ⟨⟨.mv (.slot 33), some 1, none⟩, []⟩,
  ⟨⟨.mv (.slot 34), some 2, none⟩, []⟩]
def r98_4 : List XLine := [⟨⟨.mv (.slot 2), some 35, none⟩, []⟩,
  ⟨⟨.mv (.slot 35), some 10, none⟩, []⟩]
def xf98 : XFunc := ⟨(.seq (.region false r98_0)
  (.seq (.region false r98_1)
  (.seq (.region false r98_2)
  (.seq (.region false r98_3)
  (.seq (.region false r98_4)
  .ret))))),
  [.tmp 10]⟩
theorem xf98_ok : compFunc Try.prog Try.f98 = some xf98 := by kernel_rfl
/- cmp.isNaN[int64] -/
def r99_0 : List XLine := [⟨⟨.mv (.const (.bool false)), some 2, none⟩, []⟩]
def r99_1 : List XLine := [⟨⟨.mv (.slot 0), some 3, none⟩, []⟩,
  ⟨⟨.mv (.slot 0), some 4, none⟩, []⟩,
  ⟨⟨.bin .neq 2 .num (.slot 3) (.slot 4), some 5, none⟩, []⟩,
  ⟨⟨.mv (.slot 5), some 2, none⟩, []⟩]
def xf99 : XFunc := ⟨(.seq (.region false r99_0)
  (.seq (.region false r99_1)
  .ret)),
  [.tmp 2]⟩
theorem xf99_ok : compFunc Try.prog Try.f99 = some xf99 := by kernel_rfl
/- slices.order2CmpFunc[threshing/api.Lit] -/
def r100_0 : List XLine := [⟨⟨.mv (.const (.int .i64 (.ofNat 0))), some 10, none⟩, []⟩,
  ⟨⟨.mv (.const (.int .i64 (.ofNat 0))), some 11, none⟩, []⟩]
def r100_1 : List XLine := [⟨⟨.mv (.slot 4), some 12, none⟩, []⟩,
  ⟨⟨.mv (.slot 0), some 13, none⟩, []⟩,
  ⟨⟨.mv (.slot 2), some 14, none⟩, []⟩,
  ⟨⟨.iaddr 1 (.slot 13) (.slot 14), some 15, none⟩, []⟩,
  ⟨⟨.load false 1 (.slot 15), some 16, none⟩, []⟩,
  ⟨⟨.mv (.slot 0), some 17, none⟩, []⟩,
  ⟨⟨.mv (.slot 1), some 18, none⟩, []⟩,
  ⟨⟨.iaddr 1 (.slot 17) (.slot 18), some 19, none⟩, []⟩,
  ⟨⟨.load false 1 (.slot 19), some 20, none⟩, []⟩,
  ⟨⟨.call (.slot 12) [(.slot 16), (.slot 20)], some 21, none⟩, []⟩,
  ⟨⟨.bin .lss 3 .num (.slot 21) (.const (.int .i64 (.ofNat 0))), some 22, none⟩, []⟩]
def r100_2 : List XLine := [⟨⟨.mv (.slot 3), some 23, none⟩, []⟩,
  ⟨⟨.nilCheck (.slot 23), some 24, none⟩, []⟩,
  ⟨⟨.load false 1 (.slot 24), some 25, none⟩, []⟩,
  ⟨⟨.bin .add 3 .num (.slot 25) (.const (.int .i64 (.ofNat 1))), some 26, none⟩, []⟩,
  ⟨⟨.nilCheck (.slot 23), some 27, none⟩, []⟩,
  ⟨⟨.store 1 (.slot 27) (.slot 26), none, none⟩, []⟩]
def r100_3 : List XLine := [⟨⟨.mv (.slot 2), some 28, none⟩, []⟩,
  ⟨⟨.mv (.slot 1), some 29, none⟩, []⟩,
  ⟨⟨.mv (.slot 28), some 10, none⟩, []⟩,
  ⟨⟨.mv (.slot 29), some 11, none⟩, []⟩]
def r100_4 : List XLine := [⟨⟨.mv (.slot 1), some 30, none⟩, []⟩,
  ⟨⟨.mv (.slot 2), some 31, none⟩, []⟩,
  ⟨⟨.mv (.slot 30), some 10, none⟩, []⟩,
  ⟨⟨.mv (.slot 31), some 11, none⟩, []⟩]
def xf100 : XFunc := ⟨(.seq (.region false r100_0)
  (.seq (.seq (.region true r100_1)
  (.cond (.slot 22)
  (.seq (.region false r100_2)
  (.seq (.region false r100_3)
  .ret))
  .skip))
  (.seq (.region false r100_4)
  .ret))),
  [.tmp 10, .tmp 11]⟩
theorem xf100_ok : compFunc Try.prog Try.f100 = some xf100 := by kernel_rfl
/- slices.order2Ordered[int64] -/
def r101_0 : List XLine := [⟨⟨.mv (.const (.int .i64 (.ofNat 0))), some 8, none⟩, []⟩,
  ⟨⟨.mv (.const (.int .i64 (.ofNat 0))), some 9, none⟩, []⟩]
def r101_1 : List XLine := [⟨⟨.mv (.slot 0), some 10, none⟩, []⟩,
  ⟨⟨.mv (.slot 2), some 11, none⟩, []⟩,
  ⟨⟨.iaddr 1 (.slot 10) (.slot 11), some 12, none⟩, []⟩,
  ⟨⟨.load false 1 (.slot 12), some 13, none⟩, []⟩,
  ⟨⟨.mv (.slot 0), some 14, none⟩, []⟩,
  ⟨⟨.mv (.slot 1), some 15, none⟩, []⟩,
  ⟨⟨.iaddr 1 (.slot 14) (.slot 15), some 16, none⟩, []⟩,
  ⟨⟨.load false 1 (.slot 16), some 17, none⟩, []⟩,
  ⟨⟨.call (.const (.func 88 [] [])) [(.slot 13), (.slot 17)], some 18, none⟩, []⟩]
def r101_2 : List XLine := [⟨⟨.mv (.slot 3), some 19, none⟩, []⟩,
  ⟨⟨.nilCheck (.slot 19), some 20, none⟩, []⟩,
  ⟨⟨.load false 1 (.slot 20), some 21, none⟩, []⟩,
  ⟨⟨.bin .add 3 .num (.slot 21) (.const (.int .i64 (.ofNat 1))), some 22, none⟩, []⟩,
  ⟨⟨.nilCheck (.slot 19), some 23, none⟩, []⟩,
  ⟨⟨.store 1 (.slot 23) (.slot 22), none, none⟩, []⟩]
def r101_3 : List XLine := [⟨⟨.mv (.slot 2), some 24, none⟩, []⟩,
  ⟨⟨.mv (.slot 1), some 25, none⟩, []⟩,
  ⟨⟨.mv (.slot 24), some 8, none⟩, []⟩,
  ⟨⟨.mv (.slot 25), some 9, none⟩, []⟩]
def r101_4 : List XLine := [⟨⟨.mv (.slot 1), some 26, none⟩, []⟩,
  ⟨⟨.mv (.slot 2), some 27, none⟩, []⟩,
  ⟨⟨.mv (.slot 26), some 8, none⟩, []⟩,
  ⟨⟨.mv (.slot 27), some 9, none⟩, []⟩]
def xf101 : XFunc := ⟨(.seq (.region false r101_0)
  (.seq (.seq (.region true r101_1)
  (.cond (.slot 18)
  (.seq (.region false r101_2)
  (.seq (.region false r101_3)
  .ret))
  .skip))
  (.seq (.region false r101_4)
  .ret))),
  [.tmp 8, .tmp 9]⟩
theorem xf101_ok : compFunc Try.prog Try.f101 = some xf101 := by kernel_rfl
end Go.Proofs.Ytogolfiljijhlaa

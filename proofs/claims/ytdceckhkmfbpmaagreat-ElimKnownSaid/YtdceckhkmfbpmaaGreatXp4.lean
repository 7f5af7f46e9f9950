/- The functions of the program in X's code, printed by a program of ours; each is what the program's own is turned to. -/
import Derived.Test.YtdceckhkmfbpmaaGreatProg
import Derived.Test.YtdceckhkmfbpmaaGreatXc
import Derived.KernelRfl
namespace Go.Proofs.YtdceckhkmfbpmaaGreat
open Go.Xr
/-- threshing/base.both$1 -/
def xf88 : XFunc := ⟨(.seq (.region false [⟨⟨.mv (.const (.bool false)), some 3, none⟩, []⟩])
  (.seq (.region false [⟨⟨.mv (.slot 0), some 4, none⟩, []⟩,
    ⟨⟨.bin .gtr 24 .num (.slot 4) (.const (.int .i32 (.ofNat 0))), some 5, none⟩, []⟩,
    ⟨⟨.mv (.slot 5), some 6, none⟩, []⟩,
    ⟨⟨.load false 1 (.slot 1), some 7, some (6, true)⟩, []⟩,
    ⟨⟨.mv (.slot 0), some 8, some (6, true)⟩, []⟩,
    ⟨⟨.un .neg (.slot 8), some 9, some (6, true)⟩, []⟩,
    ⟨⟨.call (.const (.func 40 [] [])) [(.slot 7), (.slot 9)], some 10, some (6, true)⟩, []⟩,
    ⟨⟨.pick (.slot 6) (.slot 10) (.const (.bool false)), some 11, none⟩, []⟩,
    ⟨⟨.mv (.slot 11), some 3, none⟩, []⟩])
  .ret)),
  [.tmp 3]⟩
theorem xf88_ok : compFunc Tryz.prog Tryz.f88 = some xf88 := by kernel_rfl
/-- slices.pdqsortOrdered[int] -/
def xf89 : XFunc := ⟨(.seq (.region false [⟨⟨.mv (.const (.bool true)), some 8, none⟩, []⟩])
  (.seq (.region false [⟨⟨.mv (.const (.bool true)), some 9, none⟩, []⟩])
  (.block 0 (.loop (.block 1 (.seq (.region false [⟨⟨.mv (.slot 2), some 19, none⟩, []⟩,
     ⟨⟨.mv (.slot 1), some 20, none⟩, []⟩,
     ⟨⟨.bin .sub 3 .num (.slot 19) (.slot 20), some 21, none⟩, []⟩,
     ⟨⟨.mv (.slot 21), some 10, none⟩, []⟩])
   (.seq (.seq (.region false [⟨⟨.mv (.slot 10), some 22, none⟩, []⟩,
     ⟨⟨.bin .leq 3 .num (.slot 22) (.const (.int .i64 (.ofNat 12))), some 23, none⟩, []⟩])
   (.cond (.slot 23)
    (.seq (.region false [⟨⟨.mv (.slot 0), some 24, none⟩, []⟩,
      ⟨⟨.mv (.slot 1), some 25, none⟩, []⟩,
      ⟨⟨.mv (.slot 2), some 26, none⟩, []⟩,
      ⟨⟨.call (.const (.func 104 [] [])) [(.slot 24), (.slot 25), (.slot 26)], some 27, none⟩, []⟩])
    .ret)
    .skip))
   (.seq (.seq (.region false [⟨⟨.mv (.slot 3), some 28, none⟩, []⟩,
     ⟨⟨.bin .eql 3 .num (.slot 28) (.const (.int .i64 (.ofNat 0))), some 29, none⟩, []⟩])
   (.cond (.slot 29)
    (.seq (.region false [⟨⟨.mv (.slot 0), some 30, none⟩, []⟩,
      ⟨⟨.mv (.slot 1), some 31, none⟩, []⟩,
      ⟨⟨.mv (.slot 2), some 32, none⟩, []⟩,
      ⟨⟨.call (.const (.func 105 [] [])) [(.slot 30), (.slot 31), (.slot 32)], some 33, none⟩, []⟩])
    .ret)
    .skip))
   (.seq (.seq (.region false [⟨⟨.mv (.slot 8), some 34, none⟩, []⟩,
     ⟨⟨.un .not (.slot 34), some 35, none⟩, []⟩])
   (.cond (.slot 35)
    (.seq (.region false [⟨⟨.mv (.slot 0), some 36, none⟩, []⟩,
      ⟨⟨.mv (.slot 1), some 37, none⟩, []⟩,
      ⟨⟨.mv (.slot 2), some 38, none⟩, []⟩,
      ⟨⟨.call (.const (.func 106 [] [])) [(.slot 36), (.slot 37), (.slot 38)], some 39, none⟩, []⟩])
    (.region false [⟨⟨.mv (.slot 3), some 40, none⟩, []⟩,
      ⟨⟨.bin .sub 3 .num (.slot 40) (.const (.int .i64 (.ofNat 1))), some 41, none⟩, []⟩,
      ⟨⟨.mv (.slot 41), some 3, none⟩, []⟩]))
    .skip))
   (.seq (.region false [⟨⟨.mv (.slot 0), some 43, none⟩, []⟩,
     ⟨⟨.mv (.slot 1), some 44, none⟩, []⟩,
     ⟨⟨.mv (.slot 2), some 45, none⟩, []⟩,
     ⟨⟨.call (.const (.func 107 [] [])) [(.slot 43), (.slot 44), (.slot 45)], some 46, none⟩, []⟩,
     ⟨⟨.mv (.slot 46), some 42, none⟩, []⟩,
     ⟨⟨.extract (.slot 42) 0, some 47, none⟩, []⟩,
     ⟨⟨.extract (.slot 42) 1, some 48, none⟩, []⟩,
     ⟨⟨.mv (.slot 47), some 11, none⟩, []⟩,
     ⟨⟨.mv (.slot 48), some 12, none⟩, []⟩])
   (.seq (.seq (.region false [⟨⟨.mv (.slot 12), some 49, none⟩, []⟩,
     ⟨⟨.bin .eql 140 .num (.slot 49) (.const (.int .i64 (.ofNat 2))), some 50, none⟩, []⟩])
   (.cond (.slot 50)
    (.seq (.region false [⟨⟨.mv (.slot 0), some 51, none⟩, []⟩,
      ⟨⟨.mv (.slot 1), some 52, none⟩, []⟩,
      ⟨⟨.mv (.slot 2), some 53, none⟩, []⟩,
      ⟨⟨.call (.const (.func 108 [] [])) [(.slot 51), (.slot 52), (.slot 53)], some 54, none⟩, []⟩])
    (.seq (.region false [⟨⟨.mv (.slot 2), some 55, none⟩, []⟩,
      ⟨⟨.bin .sub 3 .num (.slot 55) (.const (.int .i64 (.ofNat 1))), some 56, none⟩, []⟩,
      ⟨⟨.mv (.slot 11), some 57, none⟩, []⟩,
      ⟨⟨.mv (.slot 1), some 58, none⟩, []⟩,
      ⟨⟨.bin .sub 3 .num (.slot 57) (.slot 58), some 59, none⟩, []⟩,
      ⟨⟨.bin .sub 3 .num (.slot 56) (.slot 59), some 60, none⟩, []⟩,
      ⟨⟨.mv (.slot 60), some 11, none⟩, []⟩])
    (.region false [⟨⟨.mv (.const (.int .i64 (.ofNat 1))), some 12, none⟩, []⟩])))
    .skip))
   (.seq (.seq (.region false [⟨⟨.mv (.slot 8), some 61, none⟩, []⟩,
     ⟨⟨.mv (.slot 61), some 62, none⟩, []⟩,
     ⟨⟨.mv (.slot 9), some 63, some (62, true)⟩, []⟩,
     ⟨⟨.pick (.slot 62) (.slot 63) (.const (.bool false)), some 64, none⟩, []⟩,
     ⟨⟨.mv (.slot 64), some 65, none⟩, []⟩,
     ⟨⟨.mv (.slot 12), some 66, some (65, true)⟩, []⟩,
     ⟨⟨.bin .eql 140 .num (.slot 66) (.const (.int .i64 (.ofNat 1))), some 67, some (65, true)⟩, []⟩,
     ⟨⟨.pick (.slot 65) (.slot 67) (.const (.bool false)), some 68, none⟩, []⟩])
   (.cond (.slot 68)
    (.seq (.region false [⟨⟨.mv (.slot 0), some 69, none⟩, []⟩,
      ⟨⟨.mv (.slot 1), some 70, none⟩, []⟩,
      ⟨⟨.mv (.slot 2), some 71, none⟩, []⟩,
      ⟨⟨.call (.const (.func 109 [] [])) [(.slot 69), (.slot 70), (.slot 71)], some 72, none⟩, []⟩])
    (.cond (.slot 72)
     .ret
     .skip))
    .skip))
   (.seq (.seq (.region true [⟨⟨.mv (.slot 1), some 73, none⟩, []⟩,
     ⟨⟨.bin .gtr 3 .num (.slot 73) (.const (.int .i64 (.ofNat 0))), some 74, none⟩, []⟩,
     ⟨⟨.mv (.slot 74), some 75, none⟩, []⟩,
     ⟨⟨.mv (.slot 0), some 76, some (75, true)⟩, []⟩,
     ⟨⟨.mv (.slot 1), some 77, some (75, true)⟩, []⟩,
     ⟨⟨.bin .sub 3 .num (.slot 77) (.const (.int .i64 (.ofNat 1))), some 78, some (75, true)⟩, []⟩,
     ⟨⟨.iaddr 1 (.slot 76) (.slot 78), some 79, some (75, true)⟩, []⟩,
     ⟨⟨.load false 1 (.slot 79), some 80, some (75, true)⟩, []⟩,
     ⟨⟨.mv (.slot 0), some 81, some (75, true)⟩, []⟩,
     ⟨⟨.mv (.slot 11), some 82, some (75, true)⟩, []⟩,
     ⟨⟨.iaddr 1 (.slot 81) (.slot 82), some 83, some (75, true)⟩, []⟩,
     ⟨⟨.load false 1 (.slot 83), some 84, some (75, true)⟩, []⟩,
     ⟨⟨.call (.const (.func 110 [] [])) [(.slot 80), (.slot 84)], some 85, some (75, true)⟩, []⟩,
     ⟨⟨.un .not (.slot 85), some 86, some (75, true)⟩, []⟩,
     ⟨⟨.pick (.slot 75) (.slot 86) (.const (.bool false)), some 87, none⟩, []⟩])
   (.cond (.slot 87)
    (.seq (.region false [⟨⟨.mv (.slot 0), some 88, none⟩, []⟩,
      ⟨⟨.mv (.slot 1), some 89, none⟩, []⟩,
      ⟨⟨.mv (.slot 2), some 90, none⟩, []⟩,
      ⟨⟨.mv (.slot 11), some 91, none⟩, []⟩,
      ⟨⟨.call (.const (.func 111 [] [])) [(.slot 88), (.slot 89), (.slot 90), (.slot 91)], some 92, none⟩, []⟩,
      ⟨⟨.mv (.slot 92), some 13, none⟩, []⟩])
    (.seq (.region false [⟨⟨.mv (.slot 13), some 93, none⟩, []⟩,
      ⟨⟨.mv (.slot 93), some 1, none⟩, []⟩])
    (.exit 1)))
    .skip))
   (.seq (.region false [⟨⟨.mv (.slot 0), some 95, none⟩, []⟩,
     ⟨⟨.mv (.slot 1), some 96, none⟩, []⟩,
     ⟨⟨.mv (.slot 2), some 97, none⟩, []⟩,
     ⟨⟨.mv (.slot 11), some 98, none⟩, []⟩,
     ⟨⟨.call (.const (.func 112 [] [])) [(.slot 95), (.slot 96), (.slot 97), (.slot 98)], some 99, none⟩, []⟩,
     ⟨⟨.mv (.slot 99), some 94, none⟩, []⟩,
     ⟨⟨.extract (.slot 94) 0, some 100, none⟩, []⟩,
     ⟨⟨.extract (.slot 94) 1, some 101, none⟩, []⟩,
     ⟨⟨.mv (.slot 100), some 14, none⟩, []⟩,
     ⟨⟨.mv (.slot 101), some 15, none⟩, []⟩])
   (.seq (.region false [⟨⟨.mv (.slot 15), some 102, none⟩, []⟩,
     ⟨⟨.mv (.slot 102), some 9, none⟩, []⟩])
   (.seq (.region false [⟨⟨.mv (.slot 14), some 103, none⟩, []⟩,
     ⟨⟨.mv (.slot 1), some 104, none⟩, []⟩,
     ⟨⟨.bin .sub 3 .num (.slot 103) (.slot 104), some 105, none⟩, []⟩,
     ⟨⟨.mv (.slot 2), some 106, none⟩, []⟩,
     ⟨⟨.mv (.slot 14), some 107, none⟩, []⟩,
     ⟨⟨.bin .sub 3 .num (.slot 106) (.slot 107), some 108, none⟩, []⟩,
     ⟨⟨.mv (.slot 105), some 16, none⟩, []⟩,
     ⟨⟨.mv (.slot 108), some 17, none⟩, []⟩])
   (.seq (.region false [⟨⟨.mv (.slot 10), some 109, none⟩, []⟩,
     ⟨⟨.bin .quo 3 .num (.slot 109) (.const (.int .i64 (.ofNat 8))), some 110, none⟩, []⟩,
     ⟨⟨.mv (.slot 110), some 18, none⟩, []⟩])
   (.seq (.region false [⟨⟨.mv (.slot 16), some 111, none⟩, []⟩,
     ⟨⟨.mv (.slot 17), some 112, none⟩, []⟩,
     ⟨⟨.bin .lss 3 .num (.slot 111) (.slot 112), some 113, none⟩, []⟩])
   (.cond (.slot 113)
    (.seq (.region false [⟨⟨.mv (.slot 16), some 114, none⟩, []⟩,
      ⟨⟨.mv (.slot 18), some 115, none⟩, []⟩,
      ⟨⟨.bin .geq 3 .num (.slot 114) (.slot 115), some 116, none⟩, []⟩,
      ⟨⟨.mv (.slot 116), some 8, none⟩, []⟩])
    (.seq (.region false [⟨⟨.mv (.slot 0), some 117, none⟩, []⟩,
      ⟨⟨.mv (.slot 1), some 118, none⟩, []⟩,
      ⟨⟨.mv (.slot 14), some 119, none⟩, []⟩,
      ⟨⟨.mv (.slot 3), some 120, none⟩, []⟩,
      ⟨⟨.call (.const (.func 89 [] [])) [(.slot 117), (.slot 118), (.slot 119), (.slot 120)], some 121, none⟩, []⟩])
    (.region false [⟨⟨.mv (.slot 14), some 122, none⟩, []⟩,
      ⟨⟨.bin .add 3 .num (.slot 122) (.const (.int .i64 (.ofNat 1))), some 123, none⟩, []⟩,
      ⟨⟨.mv (.slot 123), some 1, none⟩, []⟩])))
    (.seq (.region false [⟨⟨.mv (.slot 17), some 124, none⟩, []⟩,
      ⟨⟨.mv (.slot 18), some 125, none⟩, []⟩,
      ⟨⟨.bin .geq 3 .num (.slot 124) (.slot 125), some 126, none⟩, []⟩,
      ⟨⟨.mv (.slot 126), some 8, none⟩, []⟩])
    (.seq (.region false [⟨⟨.mv (.slot 0), some 127, none⟩, []⟩,
      ⟨⟨.mv (.slot 14), some 128, none⟩, []⟩,
      ⟨⟨.bin .add 3 .num (.slot 128) (.const (.int .i64 (.ofNat 1))), some 129, none⟩, []⟩,
      ⟨⟨.mv (.slot 2), some 130, none⟩, []⟩,
      ⟨⟨.mv (.slot 3), some 131, none⟩, []⟩,
      ⟨⟨.call (.const (.func 89 [] [])) [(.slot 127), (.slot 129), (.slot 130), (.slot 131)], some 132, none⟩, []⟩])
    (.region false [⟨⟨.mv (.slot 14), some 133, none⟩, []⟩,
      ⟨⟨.mv (.slot 133), some 2, none⟩, []⟩])))))))))))))))))))))),
  []⟩
theorem xf89_ok : compFunc Tryz.prog Tryz.f89 = some xf89 := by kernel_rfl
/-- (*threshing/gates.finder).all$1 -/
def xf90 : XFunc := ⟨(.seq (.region false [⟨⟨.box (.slot 0), some 2, none⟩, []⟩,
    ⟨⟨.mv (.const (.bool false)), some 3, none⟩, []⟩])
  (.seq (.region false [⟨⟨.faddr 1 (.slot 2), some 4, none⟩, []⟩,
    ⟨⟨.load false 1 (.slot 4), some 5, none⟩, []⟩,
    ⟨⟨.load false 1 (.slot 1), some 6, none⟩, []⟩,
    ⟨⟨.call (.const (.func 91 [] [])) [(.slot 5), (.slot 6)], some 7, none⟩, []⟩,
    ⟨⟨.mv (.slot 7), some 3, none⟩, []⟩])
  .ret)),
  [.tmp 3]⟩
theorem xf90_ok : compFunc Tryz.prog Tryz.f90 = some xf90 := by kernel_rfl
/-- threshing/cnf.Same -/
def xf91 : XFunc := ⟨(.seq (.region false [⟨⟨.mv (.const (.bool false)), some 4, none⟩, []⟩])
  (.seq (.region false [⟨⟨.mv (.slot 0), some 5, none⟩, []⟩,
    ⟨⟨.mv (.slot 1), some 6, none⟩, []⟩,
    ⟨⟨.call (.const (.func 113 [] [])) [(.slot 5), (.slot 6)], some 7, none⟩, []⟩,
    ⟨⟨.mv (.slot 7), some 8, none⟩, []⟩,
    ⟨⟨.mv (.slot 1), some 9, some (8, true)⟩, []⟩,
    ⟨⟨.mv (.slot 0), some 10, some (8, true)⟩, []⟩,
    ⟨⟨.call (.const (.func 113 [] [])) [(.slot 9), (.slot 10)], some 11, some (8, true)⟩, []⟩,
    ⟨⟨.pick (.slot 8) (.slot 11) (.const (.bool false)), some 12, none⟩, []⟩,
    ⟨⟨.mv (.slot 12), some 4, none⟩, []⟩])
  .ret)),
  [.tmp 4]⟩
theorem xf91_ok : compFunc Tryz.prog Tryz.f91 = some xf91 := by kernel_rfl
/-- slices.SortFunc[threshing/api.Clause,threshing/api.Lit] -/
def xf92 : XFunc := ⟨(.seq (.region false [⟨⟨.mv (.slot 0), some 5, none⟩, []⟩,
    ⟨⟨.len .slice (.slot 5), some 6, none⟩, []⟩,
    ⟨⟨.mv (.slot 6), some 4, none⟩, []⟩])
  (.region false [⟨⟨.mv (.slot 0), some 7, none⟩, []⟩,
    ⟨⟨.mv (.slot 4), some 8, none⟩, []⟩,
    ⟨⟨.mv (.slot 4), some 9, none⟩, []⟩,
    ⟨⟨.conv .u64 (.slot 9), some 10, none⟩, []⟩,
    ⟨⟨.call (.const (.func 66 [] [])) [(.slot 10)], some 11, none⟩, []⟩,
    ⟨⟨.mv (.slot 1), some 12, none⟩, []⟩,
    ⟨⟨.call (.const (.func 114 [] [])) [(.slot 7), (.const (.int .i64 (.ofNat 0))), (.slot 8), (.slot 11), (.slot 12)], some 13, none⟩, []⟩])),
  []⟩
theorem xf92_ok : compFunc Tryz.prog Tryz.f92 = some xf92 := by kernel_rfl
/-- threshing/cnf.order -/
def xf93 : XFunc := ⟨(.seq (.region false [⟨⟨.mv (.const (.int .i64 (.ofNat 0))), some 4, none⟩, []⟩])
  (.seq (.region false [⟨⟨.mv (.slot 0), some 5, none⟩, []⟩,
    ⟨⟨.call (.const (.func 52 [] [])) [(.slot 5)], some 6, none⟩, []⟩,
    ⟨⟨.mv (.slot 1), some 7, none⟩, []⟩,
    ⟨⟨.call (.const (.func 52 [] [])) [(.slot 7)], some 8, none⟩, []⟩,
    ⟨⟨.call (.const (.func 116 [] [])) [(.slot 6), (.slot 8)], some 9, none⟩, []⟩,
    ⟨⟨.mv (.slot 0), some 10, none⟩, []⟩,
    ⟨⟨.mv (.slot 1), some 11, none⟩, []⟩,
    ⟨⟨.call (.const (.func 117 [] [])) [(.slot 10), (.slot 11)], some 12, none⟩, []⟩,
    ⟨⟨.bslice 1 [(.int .i64 (.ofNat 0)), (.int .i64 (.ofNat 0))] [(0, 1, (.slot 9)), (1, 1, (.slot 12))] 2, some 13, none⟩, []⟩,
    ⟨⟨.call (.const (.func 115 [] [])) [(.slot 13)], some 14, none⟩, []⟩,
    ⟨⟨.mv (.slot 14), some 4, none⟩, []⟩])
  .ret)),
  [.tmp 4]⟩
theorem xf93_ok : compFunc Tryz.prog Tryz.f93 = some xf93 := by kernel_rfl
/-- slices.Compact[threshing/api.Clause,threshing/api.Lit] -/
def xf94 : XFunc := ⟨(.seq (.region false [⟨⟨.mv (.const .nils), some 2, none⟩, []⟩])
  (.seq (.seq (.region false [⟨⟨.mv (.slot 0), some 6, none⟩, []⟩,
    ⟨⟨.len .slice (.slot 6), some 7, none⟩, []⟩,
    ⟨⟨.bin .lss 3 .num (.slot 7) (.const (.int .i64 (.ofNat 2))), some 8, none⟩, []⟩])
  (.cond (.slot 8)
   (.seq (.region false [⟨⟨.mv (.slot 0), some 9, none⟩, []⟩,
     ⟨⟨.mv (.slot 9), some 2, none⟩, []⟩])
   .ret)
   .skip))
  (.seq (.seq (.region false [⟨⟨.mv (.const (.int .i64 (.ofNat 1))), some 3, none⟩, []⟩])
  (.block 0 (.loop (.seq (.seq (.region false [⟨⟨.mv (.slot 3), some 10, none⟩, []⟩,
     ⟨⟨.mv (.slot 0), some 11, none⟩, []⟩,
     ⟨⟨.len .slice (.slot 11), some 12, none⟩, []⟩,
     ⟨⟨.bin .lss 3 .num (.slot 10) (.slot 12), some 13, none⟩, []⟩])
   (.cond (.slot 13)
    .skip
    (.exit 0)))
   (.seq (.block 1 (.seq (.region true [⟨⟨.mv (.slot 0), some 16, none⟩, []⟩,
     ⟨⟨.mv (.slot 3), some 17, none⟩, []⟩,
     ⟨⟨.iaddr 1 (.slot 16) (.slot 17), some 18, none⟩, []⟩,
     ⟨⟨.load false 1 (.slot 18), some 19, none⟩, []⟩,
     ⟨⟨.mv (.slot 0), some 20, none⟩, []⟩,
     ⟨⟨.mv (.slot 3), some 21, none⟩, []⟩,
     ⟨⟨.bin .sub 3 .num (.slot 21) (.const (.int .i64 (.ofNat 1))), some 22, none⟩, []⟩,
     ⟨⟨.iaddr 1 (.slot 20) (.slot 22), some 23, none⟩, []⟩,
     ⟨⟨.load false 1 (.slot 23), some 24, none⟩, []⟩,
     ⟨⟨.bin .eql 24 .num (.slot 19) (.slot 24), some 25, none⟩, []⟩])
   (.cond (.slot 25)
    (.seq (.region false [⟨⟨.mv (.slot 0), some 26, none⟩, []⟩,
      ⟨⟨.mv (.slot 3), some 27, none⟩, []⟩,
      ⟨⟨.slc 1 (.slot 26) (some (.slot 27)) none none, some 28, none⟩, []⟩,
      ⟨⟨.mv (.slot 28), some 4, none⟩, []⟩])
    (.seq (.seq (.region false [⟨⟨.mv (.const (.int .i64 (.ofNat 1))), some 5, none⟩, []⟩])
    (.block 2 (.loop (.seq (.seq (.region false [⟨⟨.mv (.slot 5), some 29, none⟩, []⟩,
       ⟨⟨.mv (.slot 4), some 30, none⟩, []⟩,
       ⟨⟨.len .slice (.slot 30), some 31, none⟩, []⟩,
       ⟨⟨.bin .lss 3 .num (.slot 29) (.slot 31), some 32, none⟩, []⟩])
     (.cond (.slot 32)
      .skip
      (.exit 2)))
     (.seq (.block 3 (.seq (.region true [⟨⟨.mv (.slot 4), some 35, none⟩, []⟩,
       ⟨⟨.mv (.slot 5), some 36, none⟩, []⟩,
       ⟨⟨.iaddr 1 (.slot 35) (.slot 36), some 37, none⟩, []⟩,
       ⟨⟨.load false 1 (.slot 37), some 38, none⟩, []⟩,
       ⟨⟨.mv (.slot 4), some 39, none⟩, []⟩,
       ⟨⟨.mv (.slot 5), some 40, none⟩, []⟩,
       ⟨⟨.bin .sub 3 .num (.slot 40) (.const (.int .i64 (.ofNat 1))), some 41, none⟩, []⟩,
       ⟨⟨.iaddr 1 (.slot 39) (.slot 41), some 42, none⟩, []⟩,
       ⟨⟨.load false 1 (.slot 42), some 43, none⟩, []⟩,
       ⟨⟨.bin .neq 24 .num (.slot 38) (.slot 43), some 44, none⟩, []⟩])
     (.cond (.slot 44)
      (.seq (.region false [⟨⟨.mv (.slot 0), some 45, none⟩, []⟩,
        ⟨⟨.mv (.slot 3), some 46, none⟩, []⟩,
        ⟨⟨.mv (.slot 4), some 47, none⟩, []⟩,
        ⟨⟨.mv (.slot 5), some 48, none⟩, []⟩,
        ⟨⟨.iaddr 1 (.slot 47) (.slot 48), some 49, none⟩, []⟩,
        ⟨⟨.load false 1 (.slot 49), some 50, none⟩, []⟩,
        ⟨⟨.iaddr 1 (.slot 45) (.slot 46), some 51, none⟩, []⟩,
        ⟨⟨.store 1 (.slot 51) (.slot 50), none, none⟩, []⟩])
      (.region false [⟨⟨.mv (.slot 3), some 52, none⟩, []⟩,
        ⟨⟨.bin .add 3 .num (.slot 52) (.const (.int .i64 (.ofNat 1))), some 53, none⟩, []⟩,
        ⟨⟨.mv (.slot 53), some 3, none⟩, []⟩]))
      .skip)))
     (.region false [⟨⟨.mv (.slot 5), some 33, none⟩, []⟩,
       ⟨⟨.bin .add 3 .num (.slot 33) (.const (.int .i64 (.ofNat 1))), some 34, none⟩, []⟩,
       ⟨⟨.mv (.slot 34), some 5, none⟩, []⟩]))))))
    (.seq (.region false [⟨⟨.mv (.slot 0), some 54, none⟩, []⟩,
      ⟨⟨.mv (.slot 3), some 55, none⟩, []⟩,
      ⟨⟨.slc 1 (.slot 54) (some (.slot 55)) none none, some 56, none⟩, []⟩,
      ⟨⟨.clear [(.int .i32 (.ofNat 0))] (.slot 56), none, none⟩, []⟩])
    (.seq (.region false [⟨⟨.mv (.slot 0), some 57, none⟩, []⟩,
      ⟨⟨.mv (.slot 3), some 58, none⟩, []⟩,
      ⟨⟨.slc 1 (.slot 57) none (some (.slot 58)) none, some 59, none⟩, []⟩,
      ⟨⟨.mv (.slot 59), some 2, none⟩, []⟩])
    .ret))))
    .skip)))
   (.region false [⟨⟨.mv (.slot 3), some 14, none⟩, []⟩,
     ⟨⟨.bin .add 3 .num (.slot 14) (.const (.int .i64 (.ofNat 1))), some 15, none⟩, []⟩,
     ⟨⟨.mv (.slot 15), some 3, none⟩, []⟩]))))))
  (.seq (.region false [⟨⟨.mv (.slot 0), some 60, none⟩, []⟩,
    ⟨⟨.mv (.slot 60), some 2, none⟩, []⟩])
  .ret)))),
  [.tmp 2]⟩
theorem xf94_ok : compFunc Tryz.prog Tryz.f94 = some xf94 := by kernel_rfl
/-- slices.Clip[threshing/api.Clause,threshing/api.Lit] -/
def xf95 : XFunc := ⟨(.seq (.region false [⟨⟨.mv (.const .nils), some 2, none⟩, []⟩])
  (.seq (.region false [⟨⟨.mv (.slot 0), some 3, none⟩, []⟩,
    ⟨⟨.mv (.slot 0), some 4, none⟩, []⟩,
    ⟨⟨.len .slice (.slot 4), some 5, none⟩, []⟩,
    ⟨⟨.mv (.slot 0), some 6, none⟩, []⟩,
    ⟨⟨.len .slice (.slot 6), some 7, none⟩, []⟩,
    ⟨⟨.slc 1 (.slot 3) none (some (.slot 5)) (some (.slot 7)), some 8, none⟩, []⟩,
    ⟨⟨.mv (.slot 8), some 2, none⟩, []⟩])
  .ret)),
  [.tmp 2]⟩
theorem xf95_ok : compFunc Tryz.prog Tryz.f95 = some xf95 := by kernel_rfl
/-- slices.DeleteFunc[threshing/api.Clause,threshing/api.Lit] -/
def xf96 : XFunc := ⟨(.seq (.region false [⟨⟨.mv (.const .nils), some 4, none⟩, []⟩])
  (.seq (.region false [⟨⟨.mv (.slot 0), some 8, none⟩, []⟩,
    ⟨⟨.mv (.slot 1), some 9, none⟩, []⟩,
    ⟨⟨.call (.const (.func 69 [] [])) [(.slot 8), (.slot 9)], some 10, none⟩, []⟩,
    ⟨⟨.mv (.slot 10), some 5, none⟩, []⟩])
  (.seq (.seq (.region false [⟨⟨.mv (.slot 5), some 11, none⟩, []⟩,
    ⟨⟨.bin .eql 3 .num (.slot 11) (.const (.int .i64 (.negSucc 0))), some 12, none⟩, []⟩])
  (.cond (.slot 12)
   (.seq (.region false [⟨⟨.mv (.slot 0), some 13, none⟩, []⟩,
     ⟨⟨.mv (.slot 13), some 4, none⟩, []⟩])
   .ret)
   .skip))
  (.seq (.seq (.region false [⟨⟨.mv (.slot 5), some 14, none⟩, []⟩,
    ⟨⟨.bin .add 3 .num (.slot 14) (.const (.int .i64 (.ofNat 1))), some 15, none⟩, []⟩,
    ⟨⟨.mv (.slot 15), some 6, none⟩, []⟩])
  (.block 0 (.loop (.seq (.seq (.region false [⟨⟨.mv (.slot 6), some 16, none⟩, []⟩,
     ⟨⟨.mv (.slot 0), some 17, none⟩, []⟩,
     ⟨⟨.len .slice (.slot 17), some 18, none⟩, []⟩,
     ⟨⟨.bin .lss 3 .num (.slot 16) (.slot 18), some 19, none⟩, []⟩])
   (.cond (.slot 19)
    .skip
    (.exit 0)))
   (.seq (.block 1 (.seq (.region false [⟨⟨.mv (.slot 0), some 22, none⟩, []⟩,
     ⟨⟨.mv (.slot 6), some 23, none⟩, []⟩,
     ⟨⟨.iaddr 1 (.slot 22) (.slot 23), some 24, none⟩, []⟩,
     ⟨⟨.load false 1 (.slot 24), some 25, none⟩, []⟩,
     ⟨⟨.mv (.slot 25), some 7, none⟩, []⟩])
   (.seq (.region false [⟨⟨.mv (.slot 1), some 26, none⟩, []⟩,
     ⟨⟨.mv (.slot 7), some 27, none⟩, []⟩,
     ⟨⟨.call (.slot 26) [(.slot 27)], some 28, none⟩, []⟩,
     ⟨⟨.un .not (.slot 28), some 29, none⟩, []⟩])
   (.cond (.slot 29)
    (.seq (.region false [⟨⟨.mv (.slot 0), some 30, none⟩, []⟩,
      ⟨⟨.mv (.slot 5), some 31, none⟩, []⟩,
      ⟨⟨.mv (.slot 7), some 32, none⟩, []⟩,
      ⟨⟨.iaddr 1 (.slot 30) (.slot 31), some 33, none⟩, []⟩,
      ⟨⟨.store 1 (.slot 33) (.slot 32), none, none⟩, []⟩])
    (.region false [⟨⟨.mv (.slot 5), some 34, none⟩, []⟩,
      ⟨⟨.bin .add 3 .num (.slot 34) (.const (.int .i64 (.ofNat 1))), some 35, none⟩, []⟩,
      ⟨⟨.mv (.slot 35), some 5, none⟩, []⟩]))
    .skip))))
   (.region false [⟨⟨.mv (.slot 6), some 20, none⟩, []⟩,
     ⟨⟨.bin .add 3 .num (.slot 20) (.const (.int .i64 (.ofNat 1))), some 21, none⟩, []⟩,
     ⟨⟨.mv (.slot 21), some 6, none⟩, []⟩]))))))
  (.seq (.region false [⟨⟨.mv (.slot 0), some 36, none⟩, []⟩,
    ⟨⟨.mv (.slot 5), some 37, none⟩, []⟩,
    ⟨⟨.slc 1 (.slot 36) (some (.slot 37)) none none, some 38, none⟩, []⟩,
    ⟨⟨.clear [(.int .i32 (.ofNat 0))] (.slot 38), none, none⟩, []⟩])
  (.seq (.region false [⟨⟨.mv (.slot 0), some 39, none⟩, []⟩,
    ⟨⟨.mv (.slot 5), some 40, none⟩, []⟩,
    ⟨⟨.slc 1 (.slot 39) none (some (.slot 40)) none, some 41, none⟩, []⟩,
    ⟨⟨.mv (.slot 41), some 4, none⟩, []⟩])
  .ret)))))),
  [.tmp 4]⟩
theorem xf96_ok : compFunc Tryz.prog Tryz.f96 = some xf96 := by kernel_rfl
/-- threshing/cnf.without$1 -/
def xf97 : XFunc := ⟨(.seq (.region false [⟨⟨.mv (.const (.bool false)), some 3, none⟩, []⟩])
  (.seq (.region false [⟨⟨.mv (.slot 0), some 4, none⟩, []⟩,
    ⟨⟨.load false 1 (.slot 1), some 5, none⟩, []⟩,
    ⟨⟨.bin .eql 24 .num (.slot 4) (.slot 5), some 6, none⟩, []⟩,
    ⟨⟨.mv (.slot 6), some 3, none⟩, []⟩])
  .ret)),
  [.tmp 3]⟩
theorem xf97_ok : compFunc Tryz.prog Tryz.f97 = some xf97 := by kernel_rfl
/-- slices.siftDownOrdered[int64] -/
def xf98 : XFunc := ⟨(.seq (.region false [⟨⟨.mv (.slot 1), some 10, none⟩, []⟩,
    ⟨⟨.mv (.slot 10), some 8, none⟩, []⟩])
  (.block 0 (.loop (.block 1 (.seq (.region false [⟨⟨.mv (.slot 8), some 11, none⟩, []⟩,
     ⟨⟨.bin .mul 3 .num (.const (.int .i64 (.ofNat 2))) (.slot 11), some 12, none⟩, []⟩,
     ⟨⟨.bin .add 3 .num (.slot 12) (.const (.int .i64 (.ofNat 1))), some 13, none⟩, []⟩,
     ⟨⟨.mv (.slot 13), some 9, none⟩, []⟩])
   (.seq (.seq (.region false [⟨⟨.mv (.slot 9), some 14, none⟩, []⟩,
     ⟨⟨.mv (.slot 2), some 15, none⟩, []⟩,
     ⟨⟨.bin .geq 3 .num (.slot 14) (.slot 15), some 16, none⟩, []⟩])
   (.cond (.slot 16)
    (.exit 0)
    .skip))
   (.seq (.seq (.region true [⟨⟨.mv (.slot 9), some 17, none⟩, []⟩,
     ⟨⟨.bin .add 3 .num (.slot 17) (.const (.int .i64 (.ofNat 1))), some 18, none⟩, []⟩,
     ⟨⟨.mv (.slot 2), some 19, none⟩, []⟩,
     ⟨⟨.bin .lss 3 .num (.slot 18) (.slot 19), some 20, none⟩, []⟩,
     ⟨⟨.mv (.slot 20), some 21, none⟩, []⟩,
     ⟨⟨.mv (.slot 0), some 22, some (21, true)⟩, []⟩,
     ⟨⟨.mv (.slot 3), some 23, some (21, true)⟩, []⟩,
     ⟨⟨.mv (.slot 9), some 24, some (21, true)⟩, []⟩,
     ⟨⟨.bin .add 3 .num (.slot 23) (.slot 24), some 25, some (21, true)⟩, []⟩,
     ⟨⟨.iaddr 1 (.slot 22) (.slot 25), some 26, some (21, true)⟩, []⟩,
     ⟨⟨.load false 1 (.slot 26), some 27, some (21, true)⟩, []⟩,
     ⟨⟨.mv (.slot 0), some 28, some (21, true)⟩, []⟩,
     ⟨⟨.mv (.slot 3), some 29, some (21, true)⟩, []⟩,
     ⟨⟨.mv (.slot 9), some 30, some (21, true)⟩, []⟩,
     ⟨⟨.bin .add 3 .num (.slot 29) (.slot 30), some 31, some (21, true)⟩, []⟩,
     ⟨⟨.bin .add 3 .num (.slot 31) (.const (.int .i64 (.ofNat 1))), some 32, some (21, true)⟩, []⟩,
     ⟨⟨.iaddr 1 (.slot 28) (.slot 32), some 33, some (21, true)⟩, []⟩,
     ⟨⟨.load false 1 (.slot 33), some 34, some (21, true)⟩, []⟩,
     ⟨⟨.call (.const (.func 83 [] [])) [(.slot 27), (.slot 34)], some 35, some (21, true)⟩, []⟩,
     ⟨⟨.pick (.slot 21) (.slot 35) (.const (.bool false)), some 36, none⟩, []⟩])
   (.cond (.slot 36)
    (.region false [⟨⟨.mv (.slot 9), some 37, none⟩, []⟩,
      ⟨⟨.bin .add 3 .num (.slot 37) (.const (.int .i64 (.ofNat 1))), some 38, none⟩, []⟩,
      ⟨⟨.mv (.slot 38), some 9, none⟩, []⟩])
    .skip))
   (.seq (.seq (.region true [⟨⟨.mv (.slot 0), some 39, none⟩, []⟩,
     ⟨⟨.mv (.slot 3), some 40, none⟩, []⟩,
     ⟨⟨.mv (.slot 8), some 41, none⟩, []⟩,
     ⟨⟨.bin .add 3 .num (.slot 40) (.slot 41), some 42, none⟩, []⟩,
     ⟨⟨.iaddr 1 (.slot 39) (.slot 42), some 43, none⟩, []⟩,
     ⟨⟨.load false 1 (.slot 43), some 44, none⟩, []⟩,
     ⟨⟨.mv (.slot 0), some 45, none⟩, []⟩,
     ⟨⟨.mv (.slot 3), some 46, none⟩, []⟩,
     ⟨⟨.mv (.slot 9), some 47, none⟩, []⟩,
     ⟨⟨.bin .add 3 .num (.slot 46) (.slot 47), some 48, none⟩, []⟩,
     ⟨⟨.iaddr 1 (.slot 45) (.slot 48), some 49, none⟩, []⟩,
     ⟨⟨.load false 1 (.slot 49), some 50, none⟩, []⟩,
     ⟨⟨.call (.const (.func 83 [] [])) [(.slot 44), (.slot 50)], some 51, none⟩, []⟩,
     ⟨⟨.un .not (.slot 51), some 52, none⟩, []⟩])
   (.cond (.slot 52)
    .ret
    .skip))
   (.seq (.region true [⟨⟨.mv (.slot 0), some 53, none⟩, []⟩,
     ⟨⟨.mv (.slot 3), some 54, none⟩, []⟩,
     ⟨⟨.mv (.slot 8), some 55, none⟩, []⟩,
     ⟨⟨.bin .add 3 .num (.slot 54) (.slot 55), some 56, none⟩, []⟩,
     ⟨⟨.mv (.slot 0), some 57, none⟩, []⟩,
     ⟨⟨.mv (.slot 3), some 58, none⟩, []⟩,
     ⟨⟨.mv (.slot 9), some 59, none⟩, []⟩,
     ⟨⟨.bin .add 3 .num (.slot 58) (.slot 59), some 60, none⟩, []⟩,
     ⟨⟨.mv (.slot 0), some 61, none⟩, []⟩,
     ⟨⟨.mv (.slot 3), some 62, none⟩, []⟩,
     ⟨⟨.mv (.slot 9), some 63, none⟩, []⟩,
     ⟨⟨.bin .add 3 .num (.slot 62) (.slot 63), some 64, none⟩, []⟩,
     ⟨⟨.iaddr 1 (.slot 61) (.slot 64), some 65, none⟩, []⟩,
     ⟨⟨.load false 1 (.slot 65), some 66, none⟩, []⟩,
     ⟨⟨.mv (.slot 0), some 67, none⟩, []⟩,
     ⟨⟨.mv (.slot 3), some 68, none⟩, []⟩,
     ⟨⟨.mv (.slot 8), some 69, none⟩, []⟩,
     ⟨⟨.bin .add 3 .num (.slot 68) (.slot 69), some 70, none⟩, []⟩,
     ⟨⟨.iaddr 1 (.slot 67) (.slot 70), some 71, none⟩, []⟩,
     ⟨⟨.load false 1 (.slot 71), some 72, none⟩, []⟩,
     ⟨⟨.iaddr 1 (.slot 53) (.slot 56), some 73, none⟩, []⟩,
     ⟨⟨.store 1 (.slot 73) (.slot 66), none, none⟩, []⟩,
     ⟨⟨.iaddr 1 (.slot 57) (.slot 60), some 74, none⟩, []⟩,
     ⟨⟨.store 1 (.slot 74) (.slot 72), none, none⟩, []⟩])
   (.region false [⟨⟨.mv (.slot 9), some 75, none⟩, []⟩,
     ⟨⟨.mv (.slot 75), some 8, none⟩, []⟩])))))))))),
  []⟩
theorem xf98_ok : compFunc Tryz.prog Tryz.f98 = some xf98 := by kernel_rfl
/-- slices.nextPowerOfTwo -/
def xf99 : XFunc := ⟨(.seq (.region false [⟨⟨.mv (.const (.int .u64 (.ofNat 0))), some 2, none⟩, []⟩])
  (.seq (.region false [⟨⟨.mv (.slot 0), some 3, none⟩, []⟩,
    ⟨⟨.conv .u64 (.slot 3), some 4, none⟩, []⟩,
    ⟨⟨.call (.const (.func 66 [] [])) [(.slot 4)], some 5, none⟩, []⟩,
    ⟨⟨.bin .shl 124 .num (.const (.int .u64 (.ofNat 1))) (.slot 5), some 6, none⟩, []⟩,
    ⟨⟨.mv (.slot 6), some 2, none⟩, []⟩])
  .ret)),
  [.tmp 2]⟩
theorem xf99_ok : compFunc Tryz.prog Tryz.f99 = some xf99 := by kernel_rfl
/-- (*slices.xorshift).Next -/
def xf100 : XFunc := ⟨(.seq (.region false [⟨⟨.mv (.const (.int .u64 (.ofNat 0))), some 2, none⟩, []⟩])
  (.seq (.region true [⟨⟨.mv (.slot 0), some 3, none⟩, []⟩,
    ⟨⟨.nilCheck (.slot 3), some 4, none⟩, []⟩,
    ⟨⟨.load false 1 (.slot 4), some 5, none⟩, []⟩,
    ⟨⟨.mv (.slot 0), some 6, none⟩, []⟩,
    ⟨⟨.nilCheck (.slot 6), some 7, none⟩, []⟩,
    ⟨⟨.load false 1 (.slot 7), some 8, none⟩, []⟩,
    ⟨⟨.bin .shl 156 .num (.slot 8) (.const (.int .u64 (.ofNat 13))), some 9, none⟩, []⟩,
    ⟨⟨.bin .xor 156 .num (.slot 5) (.slot 9), some 10, none⟩, []⟩,
    ⟨⟨.nilCheck (.slot 3), some 11, none⟩, []⟩,
    ⟨⟨.store 1 (.slot 11) (.slot 10), none, none⟩, []⟩])
  (.seq (.region true [⟨⟨.mv (.slot 0), some 12, none⟩, []⟩,
    ⟨⟨.nilCheck (.slot 12), some 13, none⟩, []⟩,
    ⟨⟨.load false 1 (.slot 13), some 14, none⟩, []⟩,
    ⟨⟨.mv (.slot 0), some 15, none⟩, []⟩,
    ⟨⟨.nilCheck (.slot 15), some 16, none⟩, []⟩,
    ⟨⟨.load false 1 (.slot 16), some 17, none⟩, []⟩,
    ⟨⟨.bin .shr 156 .num (.slot 17) (.const (.int .u64 (.ofNat 7))), some 18, none⟩, []⟩,
    ⟨⟨.bin .xor 156 .num (.slot 14) (.slot 18), some 19, none⟩, []⟩,
    ⟨⟨.nilCheck (.slot 12), some 20, none⟩, []⟩,
    ⟨⟨.store 1 (.slot 20) (.slot 19), none, none⟩, []⟩])
  (.seq (.region true [⟨⟨.mv (.slot 0), some 21, none⟩, []⟩,
    ⟨⟨.nilCheck (.slot 21), some 22, none⟩, []⟩,
    ⟨⟨.load false 1 (.slot 22), some 23, none⟩, []⟩,
    ⟨⟨.mv (.slot 0), some 24, none⟩, []⟩,
    ⟨⟨.nilCheck (.slot 24), some 25, none⟩, []⟩,
    ⟨⟨.load false 1 (.slot 25), some 26, none⟩, []⟩,
    ⟨⟨.bin .shl 156 .num (.slot 26) (.const (.int .u64 (.ofNat 17))), some 27, none⟩, []⟩,
    ⟨⟨.bin .xor 156 .num (.slot 23) (.slot 27), some 28, none⟩, []⟩,
    ⟨⟨.nilCheck (.slot 21), some 29, none⟩, []⟩,
    ⟨⟨.store 1 (.slot 29) (.slot 28), none, none⟩, []⟩])
  (.seq (.region false [⟨⟨.mv (.slot 0), some 30, none⟩, []⟩,
    ⟨⟨.nilCheck (.slot 30), some 31, none⟩, []⟩,
    ⟨⟨.load false 1 (.slot 31), some 32, none⟩, []⟩,
    ⟨⟨.mv (.slot 32), some 2, none⟩, []⟩])
  .ret))))),
  [.tmp 2]⟩
theorem xf100_ok : compFunc Tryz.prog Tryz.f100 = some xf100 := by kernel_rfl
/-- slices.medianAdjacentOrdered[int64] -/
def xf101 : XFunc := ⟨(.seq (.region false [⟨⟨.mv (.const (.int .i64 (.ofNat 0))), some 6, none⟩, []⟩])
  (.seq (.region false [⟨⟨.mv (.slot 0), some 7, none⟩, []⟩,
    ⟨⟨.mv (.slot 1), some 8, none⟩, []⟩,
    ⟨⟨.bin .sub 3 .num (.slot 8) (.const (.int .i64 (.ofNat 1))), some 9, none⟩, []⟩,
    ⟨⟨.mv (.slot 1), some 10, none⟩, []⟩,
    ⟨⟨.mv (.slot 1), some 11, none⟩, []⟩,
    ⟨⟨.bin .add 3 .num (.slot 11) (.const (.int .i64 (.ofNat 1))), some 12, none⟩, []⟩,
    ⟨⟨.mv (.slot 2), some 13, none⟩, []⟩,
    ⟨⟨.call (.const (.func 102 [] [])) [(.slot 7), (.slot 9), (.slot 10), (.slot 12), (.slot 13)], some 14, none⟩, []⟩,
    ⟨⟨.mv (.slot 14), some 6, none⟩, []⟩])
  .ret)),
  [.tmp 6]⟩
theorem xf101_ok : compFunc Tryz.prog Tryz.f101 = some xf101 := by kernel_rfl
/-- slices.medianOrdered[int64] -/
def xf102 : XFunc := ⟨(.seq (.region false [⟨⟨.mv (.const (.int .i64 (.ofNat 0))), some 10, none⟩, []⟩])
  (.seq (.region false [⟨⟨.mv (.slot 0), some 12, none⟩, []⟩,
    ⟨⟨.mv (.slot 1), some 13, none⟩, []⟩,
    ⟨⟨.mv (.slot 2), some 14, none⟩, []⟩,
    ⟨⟨.mv (.slot 4), some 15, none⟩, []⟩,
    ⟨⟨.call (.const (.func 118 [] [])) [(.slot 12), (.slot 13), (.slot 14), (.slot 15)], some 16, none⟩, []⟩,
    ⟨⟨.mv (.slot 16), some 11, none⟩, []⟩,
    ⟨⟨.extract (.slot 11) 0, some 17, none⟩, []⟩,
    ⟨⟨.extract (.slot 11) 1, some 18, none⟩, []⟩,
    ⟨⟨.mv (.slot 17), some 1, none⟩, []⟩,
    ⟨⟨.mv (.slot 18), some 2, none⟩, []⟩])
  (.seq (.region false [⟨⟨.mv (.slot 0), some 20, none⟩, []⟩,
    ⟨⟨.mv (.slot 2), some 21, none⟩, []⟩,
    ⟨⟨.mv (.slot 3), some 22, none⟩, []⟩,
    ⟨⟨.mv (.slot 4), some 23, none⟩, []⟩,
    ⟨⟨.call (.const (.func 118 [] [])) [(.slot 20), (.slot 21), (.slot 22), (.slot 23)], some 24, none⟩, []⟩,
    ⟨⟨.mv (.slot 24), some 19, none⟩, []⟩,
    ⟨⟨.extract (.slot 19) 0, some 25, none⟩, []⟩,
    ⟨⟨.extract (.slot 19) 1, some 26, none⟩, []⟩,
    ⟨⟨.mv (.slot 25), some 2, none⟩, []⟩,
    ⟨⟨.mv (.slot 26), some 3, none⟩, []⟩])
  (.seq (.region false [⟨⟨.mv (.slot 0), some 28, none⟩, []⟩,
    ⟨⟨.mv (.slot 1), some 29, none⟩, []⟩,
    ⟨⟨.mv (.slot 2), some 30, none⟩, []⟩,
    ⟨⟨.mv (.slot 4), some 31, none⟩, []⟩,
    ⟨⟨.call (.const (.func 118 [] [])) [(.slot 28), (.slot 29), (.slot 30), (.slot 31)], some 32, none⟩, []⟩,
    ⟨⟨.mv (.slot 32), some 27, none⟩, []⟩,
    ⟨⟨.extract (.slot 27) 0, some 33, none⟩, []⟩,
    ⟨⟨.extract (.slot 27) 1, some 34, none⟩, []⟩,
    ⟨⟨.mv (.slot 33), some 1, none⟩, []⟩,
    ⟨⟨.mv (.slot 34), some 2, none⟩, []⟩])
  (.seq (.region false [⟨⟨.mv (.slot 2), some 35, none⟩, []⟩,
    ⟨⟨.mv (.slot 35), some 10, none⟩, []⟩])
  .ret))))),
  [.tmp 10]⟩
theorem xf102_ok : compFunc Tryz.prog Tryz.f102 = some xf102 := by kernel_rfl
/-- cmp.isNaN[int64] -/
def xf103 : XFunc := ⟨(.seq (.region false [⟨⟨.mv (.const (.bool false)), some 2, none⟩, []⟩])
  (.seq (.region false [⟨⟨.mv (.slot 0), some 3, none⟩, []⟩,
    ⟨⟨.mv (.slot 0), some 4, none⟩, []⟩,
    ⟨⟨.bin .neq 2 .num (.slot 3) (.slot 4), some 5, none⟩, []⟩,
    ⟨⟨.mv (.slot 5), some 2, none⟩, []⟩])
  .ret)),
  [.tmp 2]⟩
theorem xf103_ok : compFunc Tryz.prog Tryz.f103 = some xf103 := by kernel_rfl
/-- slices.insertionSortOrdered[int] -/
def xf104 : XFunc := ⟨(.seq (.region false [⟨⟨.mv (.slot 1), some 8, none⟩, []⟩,
    ⟨⟨.bin .add 3 .num (.slot 8) (.const (.int .i64 (.ofNat 1))), some 9, none⟩, []⟩,
    ⟨⟨.mv (.slot 9), some 6, none⟩, []⟩])
  (.block 0 (.loop (.seq (.seq (.region false [⟨⟨.mv (.slot 6), some 10, none⟩, []⟩,
     ⟨⟨.mv (.slot 2), some 11, none⟩, []⟩,
     ⟨⟨.bin .lss 3 .num (.slot 10) (.slot 11), some 12, none⟩, []⟩])
   (.cond (.slot 12)
    .skip
    (.exit 0)))
   (.seq (.block 1 (.seq (.region false [⟨⟨.mv (.slot 6), some 15, none⟩, []⟩,
     ⟨⟨.mv (.slot 15), some 7, none⟩, []⟩])
   (.block 2 (.loop (.seq (.seq (.region true [⟨⟨.mv (.slot 7), some 16, none⟩, []⟩,
      ⟨⟨.mv (.slot 1), some 17, none⟩, []⟩,
      ⟨⟨.bin .gtr 3 .num (.slot 16) (.slot 17), some 18, none⟩, []⟩,
      ⟨⟨.mv (.slot 18), some 19, none⟩, []⟩,
      ⟨⟨.mv (.slot 0), some 20, some (19, true)⟩, []⟩,
      ⟨⟨.mv (.slot 7), some 21, some (19, true)⟩, []⟩,
      ⟨⟨.iaddr 1 (.slot 20) (.slot 21), some 22, some (19, true)⟩, []⟩,
      ⟨⟨.load false 1 (.slot 22), some 23, some (19, true)⟩, []⟩,
      ⟨⟨.mv (.slot 0), some 24, some (19, true)⟩, []⟩,
      ⟨⟨.mv (.slot 7), some 25, some (19, true)⟩, []⟩,
      ⟨⟨.bin .sub 3 .num (.slot 25) (.const (.int .i64 (.ofNat 1))), some 26, some (19, true)⟩, []⟩,
      ⟨⟨.iaddr 1 (.slot 24) (.slot 26), some 27, some (19, true)⟩, []⟩,
      ⟨⟨.load false 1 (.slot 27), some 28, some (19, true)⟩, []⟩,
      ⟨⟨.call (.const (.func 110 [] [])) [(.slot 23), (.slot 28)], some 29, some (19, true)⟩, []⟩,
      ⟨⟨.pick (.slot 19) (.slot 29) (.const (.bool false)), some 30, none⟩, []⟩])
    (.cond (.slot 30)
     .skip
     (.exit 2)))
    (.seq (.block 3 (.region true [⟨⟨.mv (.slot 0), some 33, none⟩, []⟩,
      ⟨⟨.mv (.slot 7), some 34, none⟩, []⟩,
      ⟨⟨.mv (.slot 0), some 35, none⟩, []⟩,
      ⟨⟨.mv (.slot 7), some 36, none⟩, []⟩,
      ⟨⟨.bin .sub 3 .num (.slot 36) (.const (.int .i64 (.ofNat 1))), some 37, none⟩, []⟩,
      ⟨⟨.mv (.slot 0), some 38, none⟩, []⟩,
      ⟨⟨.mv (.slot 7), some 39, none⟩, []⟩,
      ⟨⟨.bin .sub 3 .num (.slot 39) (.const (.int .i64 (.ofNat 1))), some 40, none⟩, []⟩,
      ⟨⟨.iaddr 1 (.slot 38) (.slot 40), some 41, none⟩, []⟩,
      ⟨⟨.load false 1 (.slot 41), some 42, none⟩, []⟩,
      ⟨⟨.mv (.slot 0), some 43, none⟩, []⟩,
      ⟨⟨.mv (.slot 7), some 44, none⟩, []⟩,
      ⟨⟨.iaddr 1 (.slot 43) (.slot 44), some 45, none⟩, []⟩,
      ⟨⟨.load false 1 (.slot 45), some 46, none⟩, []⟩,
      ⟨⟨.iaddr 1 (.slot 33) (.slot 34), some 47, none⟩, []⟩,
      ⟨⟨.store 1 (.slot 47) (.slot 42), none, none⟩, []⟩,
      ⟨⟨.iaddr 1 (.slot 35) (.slot 37), some 48, none⟩, []⟩,
      ⟨⟨.store 1 (.slot 48) (.slot 46), none, none⟩, []⟩]))
    (.region false [⟨⟨.mv (.slot 7), some 31, none⟩, []⟩,
      ⟨⟨.bin .sub 3 .num (.slot 31) (.const (.int .i64 (.ofNat 1))), some 32, none⟩, []⟩,
      ⟨⟨.mv (.slot 32), some 7, none⟩, []⟩])))))))
   (.region false [⟨⟨.mv (.slot 6), some 13, none⟩, []⟩,
     ⟨⟨.bin .add 3 .num (.slot 13) (.const (.int .i64 (.ofNat 1))), some 14, none⟩, []⟩,
     ⟨⟨.mv (.slot 14), some 6, none⟩, []⟩])))))),
  []⟩
theorem xf104_ok : compFunc Tryz.prog Tryz.f104 = some xf104 := by kernel_rfl
/-- slices.heapSortOrdered[int] -/
def xf105 : XFunc := ⟨(.seq (.region false [⟨⟨.mv (.slot 1), some 11, none⟩, []⟩,
    ⟨⟨.mv (.slot 11), some 6, none⟩, []⟩])
  (.seq (.region false [⟨⟨.mv (.const (.int .i64 (.ofNat 0))), some 7, none⟩, []⟩])
  (.seq (.region false [⟨⟨.mv (.slot 2), some 12, none⟩, []⟩,
    ⟨⟨.mv (.slot 1), some 13, none⟩, []⟩,
    ⟨⟨.bin .sub 3 .num (.slot 12) (.slot 13), some 14, none⟩, []⟩,
    ⟨⟨.mv (.slot 14), some 8, none⟩, []⟩])
  (.seq (.seq (.region false [⟨⟨.mv (.slot 8), some 15, none⟩, []⟩,
    ⟨⟨.bin .sub 3 .num (.slot 15) (.const (.int .i64 (.ofNat 1))), some 16, none⟩, []⟩,
    ⟨⟨.bin .quo 3 .num (.slot 16) (.const (.int .i64 (.ofNat 2))), some 17, none⟩, []⟩,
    ⟨⟨.mv (.slot 17), some 9, none⟩, []⟩])
  (.block 0 (.loop (.seq (.seq (.region false [⟨⟨.mv (.slot 9), some 18, none⟩, []⟩,
     ⟨⟨.bin .geq 3 .num (.slot 18) (.const (.int .i64 (.ofNat 0))), some 19, none⟩, []⟩])
   (.cond (.slot 19)
    .skip
    (.exit 0)))
   (.seq (.block 1 (.region false [⟨⟨.mv (.slot 0), some 22, none⟩, []⟩,
     ⟨⟨.mv (.slot 9), some 23, none⟩, []⟩,
     ⟨⟨.mv (.slot 8), some 24, none⟩, []⟩,
     ⟨⟨.mv (.slot 6), some 25, none⟩, []⟩,
     ⟨⟨.call (.const (.func 119 [] [])) [(.slot 22), (.slot 23), (.slot 24), (.slot 25)], some 26, none⟩, []⟩]))
   (.region false [⟨⟨.mv (.slot 9), some 20, none⟩, []⟩,
     ⟨⟨.bin .sub 3 .num (.slot 20) (.const (.int .i64 (.ofNat 1))), some 21, none⟩, []⟩,
     ⟨⟨.mv (.slot 21), some 9, none⟩, []⟩]))))))
  (.seq (.region false [⟨⟨.mv (.slot 8), some 27, none⟩, []⟩,
    ⟨⟨.bin .sub 3 .num (.slot 27) (.const (.int .i64 (.ofNat 1))), some 28, none⟩, []⟩,
    ⟨⟨.mv (.slot 28), some 10, none⟩, []⟩])
  (.block 2 (.loop (.seq (.seq (.region false [⟨⟨.mv (.slot 10), some 29, none⟩, []⟩,
     ⟨⟨.bin .geq 3 .num (.slot 29) (.const (.int .i64 (.ofNat 0))), some 30, none⟩, []⟩])
   (.cond (.slot 30)
    .skip
    (.exit 2)))
   (.seq (.block 3 (.seq (.region true [⟨⟨.mv (.slot 0), some 33, none⟩, []⟩,
     ⟨⟨.mv (.slot 6), some 34, none⟩, []⟩,
     ⟨⟨.mv (.slot 0), some 35, none⟩, []⟩,
     ⟨⟨.mv (.slot 6), some 36, none⟩, []⟩,
     ⟨⟨.mv (.slot 10), some 37, none⟩, []⟩,
     ⟨⟨.bin .add 3 .num (.slot 36) (.slot 37), some 38, none⟩, []⟩,
     ⟨⟨.mv (.slot 0), some 39, none⟩, []⟩,
     ⟨⟨.mv (.slot 6), some 40, none⟩, []⟩,
     ⟨⟨.mv (.slot 10), some 41, none⟩, []⟩,
     ⟨⟨.bin .add 3 .num (.slot 40) (.slot 41), some 42, none⟩, []⟩,
     ⟨⟨.iaddr 1 (.slot 39) (.slot 42), some 43, none⟩, []⟩,
     ⟨⟨.load false 1 (.slot 43), some 44, none⟩, []⟩,
     ⟨⟨.mv (.slot 0), some 45, none⟩, []⟩,
     ⟨⟨.mv (.slot 6), some 46, none⟩, []⟩,
     ⟨⟨.iaddr 1 (.slot 45) (.slot 46), some 47, none⟩, []⟩,
     ⟨⟨.load false 1 (.slot 47), some 48, none⟩, []⟩,
     ⟨⟨.iaddr 1 (.slot 33) (.slot 34), some 49, none⟩, []⟩,
     ⟨⟨.store 1 (.slot 49) (.slot 44), none, none⟩, []⟩,
     ⟨⟨.iaddr 1 (.slot 35) (.slot 38), some 50, none⟩, []⟩,
     ⟨⟨.store 1 (.slot 50) (.slot 48), none, none⟩, []⟩])
   (.region false [⟨⟨.mv (.slot 0), some 51, none⟩, []⟩,
     ⟨⟨.mv (.slot 7), some 52, none⟩, []⟩,
     ⟨⟨.mv (.slot 10), some 53, none⟩, []⟩,
     ⟨⟨.mv (.slot 6), some 54, none⟩, []⟩,
     ⟨⟨.call (.const (.func 119 [] [])) [(.slot 51), (.slot 52), (.slot 53), (.slot 54)], some 55, none⟩, []⟩])))
   (.region false [⟨⟨.mv (.slot 10), some 31, none⟩, []⟩,
     ⟨⟨.bin .sub 3 .num (.slot 31) (.const (.int .i64 (.ofNat 1))), some 32, none⟩, []⟩,
     ⟨⟨.mv (.slot 32), some 10, none⟩, []⟩])))))))))),
  []⟩
theorem xf105_ok : compFunc Tryz.prog Tryz.f105 = some xf105 := by kernel_rfl
/-- slices.breakPatternsOrdered[int] -/
def xf106 : XFunc := ⟨(.seq (.region false [⟨⟨.mv (.slot 2), some 11, none⟩, []⟩,
    ⟨⟨.mv (.slot 1), some 12, none⟩, []⟩,
    ⟨⟨.bin .sub 3 .num (.slot 11) (.slot 12), some 13, none⟩, []⟩,
    ⟨⟨.mv (.slot 13), some 6, none⟩, []⟩])
  (.seq (.region false [⟨⟨.mv (.slot 6), some 14, none⟩, []⟩,
    ⟨⟨.bin .geq 3 .num (.slot 14) (.const (.int .i64 (.ofNat 8))), some 15, none⟩, []⟩])
  (.cond (.slot 15)
   (.seq (.region false [⟨⟨.mv (.slot 6), some 16, none⟩, []⟩,
     ⟨⟨.conv .u64 (.slot 16), some 17, none⟩, []⟩,
     ⟨⟨.alloc [(.int .u64 (.ofNat 0))], some 7, none⟩, []⟩,
     ⟨⟨.store 1 (.slot 7) (.slot 17), none, none⟩, []⟩])
   (.seq (.region false [⟨⟨.mv (.slot 6), some 18, none⟩, []⟩,
     ⟨⟨.call (.const (.func 99 [] [])) [(.slot 18)], some 19, none⟩, []⟩,
     ⟨⟨.mv (.slot 19), some 8, none⟩, []⟩])
   (.seq (.region false [⟨⟨.mv (.slot 1), some 20, none⟩, []⟩,
     ⟨⟨.mv (.slot 6), some 21, none⟩, []⟩,
     ⟨⟨.bin .quo 3 .num (.slot 21) (.const (.int .i64 (.ofNat 4))), some 22, none⟩, []⟩,
     ⟨⟨.bin .mul 3 .num (.slot 22) (.const (.int .i64 (.ofNat 2))), some 23, none⟩, []⟩,
     ⟨⟨.bin .add 3 .num (.slot 20) (.slot 23), some 24, none⟩, []⟩,
     ⟨⟨.bin .sub 3 .num (.slot 24) (.const (.int .i64 (.ofNat 1))), some 25, none⟩, []⟩,
     ⟨⟨.mv (.slot 25), some 9, none⟩, []⟩])
   (.block 0 (.loop (.seq (.seq (.region false [⟨⟨.mv (.slot 9), some 26, none⟩, []⟩,
      ⟨⟨.mv (.slot 1), some 27, none⟩, []⟩,
      ⟨⟨.mv (.slot 6), some 28, none⟩, []⟩,
      ⟨⟨.bin .quo 3 .num (.slot 28) (.const (.int .i64 (.ofNat 4))), some 29, none⟩, []⟩,
      ⟨⟨.bin .mul 3 .num (.slot 29) (.const (.int .i64 (.ofNat 2))), some 30, none⟩, []⟩,
      ⟨⟨.bin .add 3 .num (.slot 27) (.slot 30), some 31, none⟩, []⟩,
      ⟨⟨.bin .add 3 .num (.slot 31) (.const (.int .i64 (.ofNat 1))), some 32, none⟩, []⟩,
      ⟨⟨.bin .leq 3 .num (.slot 26) (.slot 32), some 33, none⟩, []⟩])
    (.cond (.slot 33)
     .skip
     (.exit 0)))
    (.seq (.block 1 (.seq (.region false [⟨⟨.call (.const (.func 100 [] [])) [(.slot 7)], some 36, none⟩, []⟩,
      ⟨⟨.mv (.slot 8), some 37, none⟩, []⟩,
      ⟨⟨.bin .sub 124 .num (.slot 37) (.const (.int .u64 (.ofNat 1))), some 38, none⟩, []⟩,
      ⟨⟨.bin .and 124 .num (.slot 36) (.slot 38), some 39, none⟩, []⟩,
      ⟨⟨.conv .i64 (.slot 39), some 40, none⟩, []⟩,
      ⟨⟨.mv (.slot 40), some 10, none⟩, []⟩])
    (.seq (.seq (.region false [⟨⟨.mv (.slot 10), some 41, none⟩, []⟩,
      ⟨⟨.mv (.slot 6), some 42, none⟩, []⟩,
      ⟨⟨.bin .geq 3 .num (.slot 41) (.slot 42), some 43, none⟩, []⟩])
    (.cond (.slot 43)
     (.region false [⟨⟨.mv (.slot 10), some 44, none⟩, []⟩,
       ⟨⟨.mv (.slot 6), some 45, none⟩, []⟩,
       ⟨⟨.bin .sub 3 .num (.slot 44) (.slot 45), some 46, none⟩, []⟩,
       ⟨⟨.mv (.slot 46), some 10, none⟩, []⟩])
     .skip))
    (.region true [⟨⟨.mv (.slot 0), some 47, none⟩, []⟩,
      ⟨⟨.mv (.slot 9), some 48, none⟩, []⟩,
      ⟨⟨.mv (.slot 0), some 49, none⟩, []⟩,
      ⟨⟨.mv (.slot 1), some 50, none⟩, []⟩,
      ⟨⟨.mv (.slot 10), some 51, none⟩, []⟩,
      ⟨⟨.bin .add 3 .num (.slot 50) (.slot 51), some 52, none⟩, []⟩,
      ⟨⟨.mv (.slot 0), some 53, none⟩, []⟩,
      ⟨⟨.mv (.slot 1), some 54, none⟩, []⟩,
      ⟨⟨.mv (.slot 10), some 55, none⟩, []⟩,
      ⟨⟨.bin .add 3 .num (.slot 54) (.slot 55), some 56, none⟩, []⟩,
      ⟨⟨.iaddr 1 (.slot 53) (.slot 56), some 57, none⟩, []⟩,
      ⟨⟨.load false 1 (.slot 57), some 58, none⟩, []⟩,
      ⟨⟨.mv (.slot 0), some 59, none⟩, []⟩,
      ⟨⟨.mv (.slot 9), some 60, none⟩, []⟩,
      ⟨⟨.iaddr 1 (.slot 59) (.slot 60), some 61, none⟩, []⟩,
      ⟨⟨.load false 1 (.slot 61), some 62, none⟩, []⟩,
      ⟨⟨.iaddr 1 (.slot 47) (.slot 48), some 63, none⟩, []⟩,
      ⟨⟨.store 1 (.slot 63) (.slot 58), none, none⟩, []⟩,
      ⟨⟨.iaddr 1 (.slot 49) (.slot 52), some 64, none⟩, []⟩,
      ⟨⟨.store 1 (.slot 64) (.slot 62), none, none⟩, []⟩]))))
    (.region false [⟨⟨.mv (.slot 9), some 34, none⟩, []⟩,
      ⟨⟨.bin .add 3 .num (.slot 34) (.const (.int .i64 (.ofNat 1))), some 35, none⟩, []⟩,
      ⟨⟨.mv (.slot 35), some 9, none⟩, []⟩]))))))))
   .skip))),
  []⟩
theorem xf106_ok : compFunc Tryz.prog Tryz.f106 = some xf106 := by kernel_rfl
/-- slices.choosePivotOrdered[int] -/
def xf107 : XFunc := ⟨(.seq (.region false [⟨⟨.mv (.const (.int .i64 (.ofNat 0))), some 6, none⟩, []⟩,
    ⟨⟨.mv (.const (.int .i64 (.ofNat 0))), some 7, none⟩, []⟩])
  (.seq (.region false [⟨⟨.mv (.slot 2), some 13, none⟩, []⟩,
    ⟨⟨.mv (.slot 1), some 14, none⟩, []⟩,
    ⟨⟨.bin .sub 3 .num (.slot 13) (.slot 14), some 15, none⟩, []⟩,
    ⟨⟨.mv (.slot 15), some 8, none⟩, []⟩])
  (.seq (.region false [⟨⟨.alloc [(.int .i64 (.ofNat 0))], some 9, none⟩, []⟩])
  (.seq (.region false [⟨⟨.mv (.slot 1), some 16, none⟩, []⟩,
    ⟨⟨.mv (.slot 8), some 17, none⟩, []⟩,
    ⟨⟨.bin .quo 3 .num (.slot 17) (.const (.int .i64 (.ofNat 4))), some 18, none⟩, []⟩,
    ⟨⟨.bin .mul 3 .num (.slot 18) (.const (.int .i64 (.ofNat 1))), some 19, none⟩, []⟩,
    ⟨⟨.bin .add 3 .num (.slot 16) (.slot 19), some 20, none⟩, []⟩,
    ⟨⟨.mv (.slot 20), some 10, none⟩, []⟩])
  (.seq (.region false [⟨⟨.mv (.slot 1), some 21, none⟩, []⟩,
    ⟨⟨.mv (.slot 8), some 22, none⟩, []⟩,
    ⟨⟨.bin .quo 3 .num (.slot 22) (.const (.int .i64 (.ofNat 4))), some 23, none⟩, []⟩,
    ⟨⟨.bin .mul 3 .num (.slot 23) (.const (.int .i64 (.ofNat 2))), some 24, none⟩, []⟩,
    ⟨⟨.bin .add 3 .num (.slot 21) (.slot 24), some 25, none⟩, []⟩,
    ⟨⟨.mv (.slot 25), some 11, none⟩, []⟩])
  (.seq (.region false [⟨⟨.mv (.slot 1), some 26, none⟩, []⟩,
    ⟨⟨.mv (.slot 8), some 27, none⟩, []⟩,
    ⟨⟨.bin .quo 3 .num (.slot 27) (.const (.int .i64 (.ofNat 4))), some 28, none⟩, []⟩,
    ⟨⟨.bin .mul 3 .num (.slot 28) (.const (.int .i64 (.ofNat 3))), some 29, none⟩, []⟩,
    ⟨⟨.bin .add 3 .num (.slot 26) (.slot 29), some 30, none⟩, []⟩,
    ⟨⟨.mv (.slot 30), some 12, none⟩, []⟩])
  (.seq (.seq (.region false [⟨⟨.mv (.slot 8), some 31, none⟩, []⟩,
    ⟨⟨.bin .geq 3 .num (.slot 31) (.const (.int .i64 (.ofNat 8))), some 32, none⟩, []⟩])
  (.cond (.slot 32)
   (.seq (.seq (.region false [⟨⟨.mv (.slot 8), some 33, none⟩, []⟩,
     ⟨⟨.bin .geq 3 .num (.slot 33) (.const (.int .i64 (.ofNat 50))), some 34, none⟩, []⟩])
   (.cond (.slot 34)
    (.seq (.region false [⟨⟨.mv (.slot 0), some 35, none⟩, []⟩,
      ⟨⟨.mv (.slot 10), some 36, none⟩, []⟩,
      ⟨⟨.call (.const (.func 120 [] [])) [(.slot 35), (.slot 36), (.slot 9)], some 37, none⟩, []⟩,
      ⟨⟨.mv (.slot 37), some 10, none⟩, []⟩])
    (.seq (.region false [⟨⟨.mv (.slot 0), some 38, none⟩, []⟩,
      ⟨⟨.mv (.slot 11), some 39, none⟩, []⟩,
      ⟨⟨.call (.const (.func 120 [] [])) [(.slot 38), (.slot 39), (.slot 9)], some 40, none⟩, []⟩,
      ⟨⟨.mv (.slot 40), some 11, none⟩, []⟩])
    (.region false [⟨⟨.mv (.slot 0), some 41, none⟩, []⟩,
      ⟨⟨.mv (.slot 12), some 42, none⟩, []⟩,
      ⟨⟨.call (.const (.func 120 [] [])) [(.slot 41), (.slot 42), (.slot 9)], some 43, none⟩, []⟩,
      ⟨⟨.mv (.slot 43), some 12, none⟩, []⟩])))
    .skip))
   (.region false [⟨⟨.mv (.slot 0), some 44, none⟩, []⟩,
     ⟨⟨.mv (.slot 10), some 45, none⟩, []⟩,
     ⟨⟨.mv (.slot 11), some 46, none⟩, []⟩,
     ⟨⟨.mv (.slot 12), some 47, none⟩, []⟩,
     ⟨⟨.call (.const (.func 121 [] [])) [(.slot 44), (.slot 45), (.slot 46), (.slot 47), (.slot 9)], some 48, none⟩, []⟩,
     ⟨⟨.mv (.slot 48), some 11, none⟩, []⟩]))
   .skip))
  (.seq (.region false [⟨⟨.load false 1 (.slot 9), some 49, none⟩, []⟩])
  (.block 0 (.seq (.region false [⟨⟨.bin .eql 3 .num (.slot 49) (.const (.int .i64 (.ofNat 0))), some 52, none⟩, []⟩,
    ⟨⟨.mv (.slot 52), some 51, none⟩, []⟩])
  (.cond (.slot 51)
   (.seq (.region false [⟨⟨.mv (.slot 11), some 53, none⟩, []⟩,
     ⟨⟨.mv (.slot 53), some 6, none⟩, []⟩,
     ⟨⟨.mv (.const (.int .i64 (.ofNat 1))), some 7, none⟩, []⟩])
   .ret)
   (.seq (.region false [⟨⟨.bin .eql 3 .num (.slot 49) (.const (.int .i64 (.ofNat 12))), some 55, none⟩, []⟩,
     ⟨⟨.mv (.slot 55), some 54, none⟩, []⟩])
   (.cond (.slot 54)
    (.seq (.region false [⟨⟨.mv (.slot 11), some 56, none⟩, []⟩,
      ⟨⟨.mv (.slot 56), some 6, none⟩, []⟩,
      ⟨⟨.mv (.const (.int .i64 (.ofNat 2))), some 7, none⟩, []⟩])
    .ret)
    (.seq (.region false [⟨⟨.mv (.slot 11), some 50, none⟩, []⟩,
      ⟨⟨.mv (.slot 50), some 6, none⟩, []⟩,
      ⟨⟨.mv (.const (.int .i64 (.ofNat 0))), some 7, none⟩, []⟩])
    .ret)))))))))))))),
  [.tmp 6, .tmp 7]⟩
theorem xf107_ok : compFunc Tryz.prog Tryz.f107 = some xf107 := by kernel_rfl
/-- slices.reverseRangeOrdered[int] -/
def xf108 : XFunc := ⟨(.seq (.region false [⟨⟨.mv (.slot 1), some 8, none⟩, []⟩,
    ⟨⟨.mv (.slot 8), some 6, none⟩, []⟩])
  (.seq (.region false [⟨⟨.mv (.slot 2), some 9, none⟩, []⟩,
    ⟨⟨.bin .sub 3 .num (.slot 9) (.const (.int .i64 (.ofNat 1))), some 10, none⟩, []⟩,
    ⟨⟨.mv (.slot 10), some 7, none⟩, []⟩])
  (.block 0 (.loop (.seq (.seq (.region false [⟨⟨.mv (.slot 6), some 11, none⟩, []⟩,
     ⟨⟨.mv (.slot 7), some 12, none⟩, []⟩,
     ⟨⟨.bin .lss 3 .num (.slot 11) (.slot 12), some 13, none⟩, []⟩])
   (.cond (.slot 13)
    .skip
    (.exit 0)))
   (.block 1 (.seq (.region true [⟨⟨.mv (.slot 0), some 14, none⟩, []⟩,
     ⟨⟨.mv (.slot 6), some 15, none⟩, []⟩,
     ⟨⟨.mv (.slot 0), some 16, none⟩, []⟩,
     ⟨⟨.mv (.slot 7), some 17, none⟩, []⟩,
     ⟨⟨.mv (.slot 0), some 18, none⟩, []⟩,
     ⟨⟨.mv (.slot 7), some 19, none⟩, []⟩,
     ⟨⟨.iaddr 1 (.slot 18) (.slot 19), some 20, none⟩, []⟩,
     ⟨⟨.load false 1 (.slot 20), some 21, none⟩, []⟩,
     ⟨⟨.mv (.slot 0), some 22, none⟩, []⟩,
     ⟨⟨.mv (.slot 6), some 23, none⟩, []⟩,
     ⟨⟨.iaddr 1 (.slot 22) (.slot 23), some 24, none⟩, []⟩,
     ⟨⟨.load false 1 (.slot 24), some 25, none⟩, []⟩,
     ⟨⟨.iaddr 1 (.slot 14) (.slot 15), some 26, none⟩, []⟩,
     ⟨⟨.store 1 (.slot 26) (.slot 21), none, none⟩, []⟩,
     ⟨⟨.iaddr 1 (.slot 16) (.slot 17), some 27, none⟩, []⟩,
     ⟨⟨.store 1 (.slot 27) (.slot 25), none, none⟩, []⟩])
   (.seq (.region false [⟨⟨.mv (.slot 6), some 28, none⟩, []⟩,
     ⟨⟨.bin .add 3 .num (.slot 28) (.const (.int .i64 (.ofNat 1))), some 29, none⟩, []⟩,
     ⟨⟨.mv (.slot 29), some 6, none⟩, []⟩])
   (.region false [⟨⟨.mv (.slot 7), some 30, none⟩, []⟩,
     ⟨⟨.bin .sub 3 .num (.slot 30) (.const (.int .i64 (.ofNat 1))), some 31, none⟩, []⟩,
     ⟨⟨.mv (.slot 31), some 7, none⟩, []⟩]))))))))),
  []⟩
theorem xf108_ok : compFunc Tryz.prog Tryz.f108 = some xf108 := by kernel_rfl
/-- slices.partialInsertionSortOrdered[int] -/
def xf109 : XFunc := ⟨(.seq (.region false [⟨⟨.mv (.const (.bool false)), some 6, none⟩, []⟩])
  (.seq (.region false [⟨⟨.mv (.slot 1), some 11, none⟩, []⟩,
    ⟨⟨.bin .add 3 .num (.slot 11) (.const (.int .i64 (.ofNat 1))), some 12, none⟩, []⟩,
    ⟨⟨.mv (.slot 12), some 7, none⟩, []⟩])
  (.seq (.seq (.region false [⟨⟨.mv (.const (.int .i64 (.ofNat 0))), some 8, none⟩, []⟩])
  (.block 0 (.loop (.seq (.seq (.region false [⟨⟨.mv (.slot 8), some 13, none⟩, []⟩,
     ⟨⟨.bin .lss 3 .num (.slot 13) (.const (.int .i64 (.ofNat 5))), some 14, none⟩, []⟩])
   (.cond (.slot 14)
    .skip
    (.exit 0)))
   (.seq (.block 1 (.seq (.block 2 (.loop (.seq (.seq (.region true [⟨⟨.mv (.slot 7), some 17, none⟩, []⟩,
      ⟨⟨.mv (.slot 2), some 18, none⟩, []⟩,
      ⟨⟨.bin .lss 3 .num (.slot 17) (.slot 18), some 19, none⟩, []⟩,
      ⟨⟨.mv (.slot 19), some 20, none⟩, []⟩,
      ⟨⟨.mv (.slot 0), some 21, some (20, true)⟩, []⟩,
      ⟨⟨.mv (.slot 7), some 22, some (20, true)⟩, []⟩,
      ⟨⟨.iaddr 1 (.slot 21) (.slot 22), some 23, some (20, true)⟩, []⟩,
      ⟨⟨.load false 1 (.slot 23), some 24, some (20, true)⟩, []⟩,
      ⟨⟨.mv (.slot 0), some 25, some (20, true)⟩, []⟩,
      ⟨⟨.mv (.slot 7), some 26, some (20, true)⟩, []⟩,
      ⟨⟨.bin .sub 3 .num (.slot 26) (.const (.int .i64 (.ofNat 1))), some 27, some (20, true)⟩, []⟩,
      ⟨⟨.iaddr 1 (.slot 25) (.slot 27), some 28, some (20, true)⟩, []⟩,
      ⟨⟨.load false 1 (.slot 28), some 29, some (20, true)⟩, []⟩,
      ⟨⟨.call (.const (.func 110 [] [])) [(.slot 24), (.slot 29)], some 30, some (20, true)⟩, []⟩,
      ⟨⟨.un .not (.slot 30), some 31, some (20, true)⟩, []⟩,
      ⟨⟨.pick (.slot 20) (.slot 31) (.const (.bool false)), some 32, none⟩, []⟩])
    (.cond (.slot 32)
     .skip
     (.exit 2)))
    (.block 3 (.region false [⟨⟨.mv (.slot 7), some 33, none⟩, []⟩,
      ⟨⟨.bin .add 3 .num (.slot 33) (.const (.int .i64 (.ofNat 1))), some 34, none⟩, []⟩,
      ⟨⟨.mv (.slot 34), some 7, none⟩, []⟩])))))
   (.seq (.seq (.region false [⟨⟨.mv (.slot 7), some 35, none⟩, []⟩,
     ⟨⟨.mv (.slot 2), some 36, none⟩, []⟩,
     ⟨⟨.bin .eql 3 .num (.slot 35) (.slot 36), some 37, none⟩, []⟩])
   (.cond (.slot 37)
    (.seq (.region false [⟨⟨.mv (.const (.bool true)), some 6, none⟩, []⟩])
    .ret)
    .skip))
   (.seq (.seq (.region false [⟨⟨.mv (.slot 2), some 38, none⟩, []⟩,
     ⟨⟨.mv (.slot 1), some 39, none⟩, []⟩,
     ⟨⟨.bin .sub 3 .num (.slot 38) (.slot 39), some 40, none⟩, []⟩,
     ⟨⟨.bin .lss 3 .num (.slot 40) (.const (.int .i64 (.ofNat 50))), some 41, none⟩, []⟩])
   (.cond (.slot 41)
    (.seq (.region false [⟨⟨.mv (.const (.bool false)), some 6, none⟩, []⟩])
    .ret)
    .skip))
   (.seq (.region true [⟨⟨.mv (.slot 0), some 42, none⟩, []⟩,
     ⟨⟨.mv (.slot 7), some 43, none⟩, []⟩,
     ⟨⟨.mv (.slot 0), some 44, none⟩, []⟩,
     ⟨⟨.mv (.slot 7), some 45, none⟩, []⟩,
     ⟨⟨.bin .sub 3 .num (.slot 45) (.const (.int .i64 (.ofNat 1))), some 46, none⟩, []⟩,
     ⟨⟨.mv (.slot 0), some 47, none⟩, []⟩,
     ⟨⟨.mv (.slot 7), some 48, none⟩, []⟩,
     ⟨⟨.bin .sub 3 .num (.slot 48) (.const (.int .i64 (.ofNat 1))), some 49, none⟩, []⟩,
     ⟨⟨.iaddr 1 (.slot 47) (.slot 49), some 50, none⟩, []⟩,
     ⟨⟨.load false 1 (.slot 50), some 51, none⟩, []⟩,
     ⟨⟨.mv (.slot 0), some 52, none⟩, []⟩,
     ⟨⟨.mv (.slot 7), some 53, none⟩, []⟩,
     ⟨⟨.iaddr 1 (.slot 52) (.slot 53), some 54, none⟩, []⟩,
     ⟨⟨.load false 1 (.slot 54), some 55, none⟩, []⟩,
     ⟨⟨.iaddr 1 (.slot 42) (.slot 43), some 56, none⟩, []⟩,
     ⟨⟨.store 1 (.slot 56) (.slot 51), none, none⟩, []⟩,
     ⟨⟨.iaddr 1 (.slot 44) (.slot 46), some 57, none⟩, []⟩,
     ⟨⟨.store 1 (.slot 57) (.slot 55), none, none⟩, []⟩])
   (.seq (.seq (.region false [⟨⟨.mv (.slot 7), some 58, none⟩, []⟩,
     ⟨⟨.mv (.slot 1), some 59, none⟩, []⟩,
     ⟨⟨.bin .sub 3 .num (.slot 58) (.slot 59), some 60, none⟩, []⟩,
     ⟨⟨.bin .geq 3 .num (.slot 60) (.const (.int .i64 (.ofNat 2))), some 61, none⟩, []⟩])
   (.cond (.slot 61)
    (.seq (.region false [⟨⟨.mv (.slot 7), some 62, none⟩, []⟩,
      ⟨⟨.bin .sub 3 .num (.slot 62) (.const (.int .i64 (.ofNat 1))), some 63, none⟩, []⟩,
      ⟨⟨.mv (.slot 63), some 9, none⟩, []⟩])
    (.block 4 (.loop (.seq (.seq (.region false [⟨⟨.mv (.slot 9), some 64, none⟩, []⟩,
       ⟨⟨.bin .geq 3 .num (.slot 64) (.const (.int .i64 (.ofNat 1))), some 65, none⟩, []⟩])
     (.cond (.slot 65)
      .skip
      (.exit 4)))
     (.seq (.block 5 (.seq (.seq (.region true [⟨⟨.mv (.slot 0), some 68, none⟩, []⟩,
       ⟨⟨.mv (.slot 9), some 69, none⟩, []⟩,
       ⟨⟨.iaddr 1 (.slot 68) (.slot 69), some 70, none⟩, []⟩,
       ⟨⟨.load false 1 (.slot 70), some 71, none⟩, []⟩,
       ⟨⟨.mv (.slot 0), some 72, none⟩, []⟩,
       ⟨⟨.mv (.slot 9), some 73, none⟩, []⟩,
       ⟨⟨.bin .sub 3 .num (.slot 73) (.const (.int .i64 (.ofNat 1))), some 74, none⟩, []⟩,
       ⟨⟨.iaddr 1 (.slot 72) (.slot 74), some 75, none⟩, []⟩,
       ⟨⟨.load false 1 (.slot 75), some 76, none⟩, []⟩,
       ⟨⟨.call (.const (.func 110 [] [])) [(.slot 71), (.slot 76)], some 77, none⟩, []⟩,
       ⟨⟨.un .not (.slot 77), some 78, none⟩, []⟩])
     (.cond (.slot 78)
      (.exit 4)
      .skip))
     (.region true [⟨⟨.mv (.slot 0), some 79, none⟩, []⟩,
       ⟨⟨.mv (.slot 9), some 80, none⟩, []⟩,
       ⟨⟨.mv (.slot 0), some 81, none⟩, []⟩,
       ⟨⟨.mv (.slot 9), some 82, none⟩, []⟩,
       ⟨⟨.bin .sub 3 .num (.slot 82) (.const (.int .i64 (.ofNat 1))), some 83, none⟩, []⟩,
       ⟨⟨.mv (.slot 0), some 84, none⟩, []⟩,
       ⟨⟨.mv (.slot 9), some 85, none⟩, []⟩,
       ⟨⟨.bin .sub 3 .num (.slot 85) (.const (.int .i64 (.ofNat 1))), some 86, none⟩, []⟩,
       ⟨⟨.iaddr 1 (.slot 84) (.slot 86), some 87, none⟩, []⟩,
       ⟨⟨.load false 1 (.slot 87), some 88, none⟩, []⟩,
       ⟨⟨.mv (.slot 0), some 89, none⟩, []⟩,
       ⟨⟨.mv (.slot 9), some 90, none⟩, []⟩,
       ⟨⟨.iaddr 1 (.slot 89) (.slot 90), some 91, none⟩, []⟩,
       ⟨⟨.load false 1 (.slot 91), some 92, none⟩, []⟩,
       ⟨⟨.iaddr 1 (.slot 79) (.slot 80), some 93, none⟩, []⟩,
       ⟨⟨.store 1 (.slot 93) (.slot 88), none, none⟩, []⟩,
       ⟨⟨.iaddr 1 (.slot 81) (.slot 83), some 94, none⟩, []⟩,
       ⟨⟨.store 1 (.slot 94) (.slot 92), none, none⟩, []⟩])))
     (.region false [⟨⟨.mv (.slot 9), some 66, none⟩, []⟩,
       ⟨⟨.bin .sub 3 .num (.slot 66) (.const (.int .i64 (.ofNat 1))), some 67, none⟩, []⟩,
       ⟨⟨.mv (.slot 67), some 9, none⟩, []⟩]))))))
    .skip))
   (.seq (.region false [⟨⟨.mv (.slot 2), some 95, none⟩, []⟩,
     ⟨⟨.mv (.slot 7), some 96, none⟩, []⟩,
     ⟨⟨.bin .sub 3 .num (.slot 95) (.slot 96), some 97, none⟩, []⟩,
     ⟨⟨.bin .geq 3 .num (.slot 97) (.const (.int .i64 (.ofNat 2))), some 98, none⟩, []⟩])
   (.cond (.slot 98)
    (.seq (.region false [⟨⟨.mv (.slot 7), some 99, none⟩, []⟩,
      ⟨⟨.bin .add 3 .num (.slot 99) (.const (.int .i64 (.ofNat 1))), some 100, none⟩, []⟩,
      ⟨⟨.mv (.slot 100), some 10, none⟩, []⟩])
    (.block 6 (.loop (.seq (.seq (.region false [⟨⟨.mv (.slot 10), some 101, none⟩, []⟩,
       ⟨⟨.mv (.slot 2), some 102, none⟩, []⟩,
       ⟨⟨.bin .lss 3 .num (.slot 101) (.slot 102), some 103, none⟩, []⟩])
     (.cond (.slot 103)
      .skip
      (.exit 6)))
     (.seq (.block 7 (.seq (.seq (.region true [⟨⟨.mv (.slot 0), some 106, none⟩, []⟩,
       ⟨⟨.mv (.slot 10), some 107, none⟩, []⟩,
       ⟨⟨.iaddr 1 (.slot 106) (.slot 107), some 108, none⟩, []⟩,
       ⟨⟨.load false 1 (.slot 108), some 109, none⟩, []⟩,
       ⟨⟨.mv (.slot 0), some 110, none⟩, []⟩,
       ⟨⟨.mv (.slot 10), some 111, none⟩, []⟩,
       ⟨⟨.bin .sub 3 .num (.slot 111) (.const (.int .i64 (.ofNat 1))), some 112, none⟩, []⟩,
       ⟨⟨.iaddr 1 (.slot 110) (.slot 112), some 113, none⟩, []⟩,
       ⟨⟨.load false 1 (.slot 113), some 114, none⟩, []⟩,
       ⟨⟨.call (.const (.func 110 [] [])) [(.slot 109), (.slot 114)], some 115, none⟩, []⟩,
       ⟨⟨.un .not (.slot 115), some 116, none⟩, []⟩])
     (.cond (.slot 116)
      (.exit 6)
      .skip))
     (.region true [⟨⟨.mv (.slot 0), some 117, none⟩, []⟩,
       ⟨⟨.mv (.slot 10), some 118, none⟩, []⟩,
       ⟨⟨.mv (.slot 0), some 119, none⟩, []⟩,
       ⟨⟨.mv (.slot 10), some 120, none⟩, []⟩,
       ⟨⟨.bin .sub 3 .num (.slot 120) (.const (.int .i64 (.ofNat 1))), some 121, none⟩, []⟩,
       ⟨⟨.mv (.slot 0), some 122, none⟩, []⟩,
       ⟨⟨.mv (.slot 10), some 123, none⟩, []⟩,
       ⟨⟨.bin .sub 3 .num (.slot 123) (.const (.int .i64 (.ofNat 1))), some 124, none⟩, []⟩,
       ⟨⟨.iaddr 1 (.slot 122) (.slot 124), some 125, none⟩, []⟩,
       ⟨⟨.load false 1 (.slot 125), some 126, none⟩, []⟩,
       ⟨⟨.mv (.slot 0), some 127, none⟩, []⟩,
       ⟨⟨.mv (.slot 10), some 128, none⟩, []⟩,
       ⟨⟨.iaddr 1 (.slot 127) (.slot 128), some 129, none⟩, []⟩,
       ⟨⟨.load false 1 (.slot 129), some 130, none⟩, []⟩,
       ⟨⟨.iaddr 1 (.slot 117) (.slot 118), some 131, none⟩, []⟩,
       ⟨⟨.store 1 (.slot 131) (.slot 126), none, none⟩, []⟩,
       ⟨⟨.iaddr 1 (.slot 119) (.slot 121), some 132, none⟩, []⟩,
       ⟨⟨.store 1 (.slot 132) (.slot 130), none, none⟩, []⟩])))
     (.region false [⟨⟨.mv (.slot 10), some 104, none⟩, []⟩,
       ⟨⟨.bin .add 3 .num (.slot 104) (.const (.int .i64 (.ofNat 1))), some 105, none⟩, []⟩,
       ⟨⟨.mv (.slot 105), some 10, none⟩, []⟩]))))))
    .skip))))))))
   (.region false [⟨⟨.mv (.slot 8), some 15, none⟩, []⟩,
     ⟨⟨.bin .add 3 .num (.slot 15) (.const (.int .i64 (.ofNat 1))), some 16, none⟩, []⟩,
     ⟨⟨.mv (.slot 16), some 8, none⟩, []⟩]))))))
  (.seq (.region false [⟨⟨.mv (.const (.bool false)), some 6, none⟩, []⟩])
  .ret)))),
  [.tmp 6]⟩
theorem xf109_ok : compFunc Tryz.prog Tryz.f109 = some xf109 := by kernel_rfl
/-- cmp.Less[int] -/
def xf110 : XFunc := ⟨(.seq (.region false [⟨⟨.mv (.const (.bool false)), some 4, none⟩, []⟩])
  (.seq (.region false [⟨⟨.mv (.slot 0), some 5, none⟩, []⟩,
    ⟨⟨.call (.const (.func 122 [] [])) [(.slot 5)], some 6, none⟩, []⟩,
    ⟨⟨.mv (.slot 6), some 7, none⟩, []⟩,
    ⟨⟨.mv (.slot 1), some 8, some (7, true)⟩, []⟩,
    ⟨⟨.call (.const (.func 122 [] [])) [(.slot 8)], some 9, some (7, true)⟩, []⟩,
    ⟨⟨.un .not (.slot 9), some 10, some (7, true)⟩, []⟩,
    ⟨⟨.pick (.slot 7) (.slot 10) (.const (.bool false)), some 11, none⟩, []⟩,
    ⟨⟨.mv (.slot 11), some 12, none⟩, []⟩,
    ⟨⟨.mv (.slot 0), some 13, some (12, false)⟩, []⟩,
    ⟨⟨.mv (.slot 1), some 14, some (12, false)⟩, []⟩,
    ⟨⟨.bin .lss 3 .num (.slot 13) (.slot 14), some 15, some (12, false)⟩, []⟩,
    ⟨⟨.pick (.slot 12) (.const (.bool true)) (.slot 15), some 16, none⟩, []⟩,
    ⟨⟨.mv (.slot 16), some 4, none⟩, []⟩])
  .ret)),
  [.tmp 4]⟩
theorem xf110_ok : compFunc Tryz.prog Tryz.f110 = some xf110 := by kernel_rfl
/-- slices.partitionEqualOrdered[int] -/
def xf111 : XFunc := ⟨(.seq (.region false [⟨⟨.mv (.const (.int .i64 (.ofNat 0))), some 8, none⟩, []⟩])
  (.seq (.region true [⟨⟨.mv (.slot 0), some 11, none⟩, []⟩,
    ⟨⟨.mv (.slot 1), some 12, none⟩, []⟩,
    ⟨⟨.mv (.slot 0), some 13, none⟩, []⟩,
    ⟨⟨.mv (.slot 3), some 14, none⟩, []⟩,
    ⟨⟨.mv (.slot 0), some 15, none⟩, []⟩,
    ⟨⟨.mv (.slot 3), some 16, none⟩, []⟩,
    ⟨⟨.iaddr 1 (.slot 15) (.slot 16), some 17, none⟩, []⟩,
    ⟨⟨.load false 1 (.slot 17), some 18, none⟩, []⟩,
    ⟨⟨.mv (.slot 0), some 19, none⟩, []⟩,
    ⟨⟨.mv (.slot 1), some 20, none⟩, []⟩,
    ⟨⟨.iaddr 1 (.slot 19) (.slot 20), some 21, none⟩, []⟩,
    ⟨⟨.load false 1 (.slot 21), some 22, none⟩, []⟩,
    ⟨⟨.iaddr 1 (.slot 11) (.slot 12), some 23, none⟩, []⟩,
    ⟨⟨.store 1 (.slot 23) (.slot 18), none, none⟩, []⟩,
    ⟨⟨.iaddr 1 (.slot 13) (.slot 14), some 24, none⟩, []⟩,
    ⟨⟨.store 1 (.slot 24) (.slot 22), none, none⟩, []⟩])
  (.seq (.region false [⟨⟨.mv (.slot 1), some 25, none⟩, []⟩,
    ⟨⟨.bin .add 3 .num (.slot 25) (.const (.int .i64 (.ofNat 1))), some 26, none⟩, []⟩,
    ⟨⟨.mv (.slot 2), some 27, none⟩, []⟩,
    ⟨⟨.bin .sub 3 .num (.slot 27) (.const (.int .i64 (.ofNat 1))), some 28, none⟩, []⟩,
    ⟨⟨.mv (.slot 26), some 9, none⟩, []⟩,
    ⟨⟨.mv (.slot 28), some 10, none⟩, []⟩])
  (.seq (.block 0 (.loop (.block 1 (.seq (.block 2 (.loop (.seq (.seq (.region true [⟨⟨.mv (.slot 9), some 29, none⟩, []⟩,
      ⟨⟨.mv (.slot 10), some 30, none⟩, []⟩,
      ⟨⟨.bin .leq 3 .num (.slot 29) (.slot 30), some 31, none⟩, []⟩,
      ⟨⟨.mv (.slot 31), some 32, none⟩, []⟩,
      ⟨⟨.mv (.slot 0), some 33, some (32, true)⟩, []⟩,
      ⟨⟨.mv (.slot 1), some 34, some (32, true)⟩, []⟩,
      ⟨⟨.iaddr 1 (.slot 33) (.slot 34), some 35, some (32, true)⟩, []⟩,
      ⟨⟨.load false 1 (.slot 35), some 36, some (32, true)⟩, []⟩,
      ⟨⟨.mv (.slot 0), some 37, some (32, true)⟩, []⟩,
      ⟨⟨.mv (.slot 9), some 38, some (32, true)⟩, []⟩,
      ⟨⟨.iaddr 1 (.slot 37) (.slot 38), some 39, some (32, true)⟩, []⟩,
      ⟨⟨.load false 1 (.slot 39), some 40, some (32, true)⟩, []⟩,
      ⟨⟨.call (.const (.func 110 [] [])) [(.slot 36), (.slot 40)], some 41, some (32, true)⟩, []⟩,
      ⟨⟨.un .not (.slot 41), some 42, some (32, true)⟩, []⟩,
      ⟨⟨.pick (.slot 32) (.slot 42) (.const (.bool false)), some 43, none⟩, []⟩])
    (.cond (.slot 43)
     .skip
     (.exit 2)))
    (.block 3 (.region false [⟨⟨.mv (.slot 9), some 44, none⟩, []⟩,
      ⟨⟨.bin .add 3 .num (.slot 44) (.const (.int .i64 (.ofNat 1))), some 45, none⟩, []⟩,
      ⟨⟨.mv (.slot 45), some 9, none⟩, []⟩])))))
   (.seq (.block 4 (.loop (.seq (.seq (.region true [⟨⟨.mv (.slot 9), some 46, none⟩, []⟩,
      ⟨⟨.mv (.slot 10), some 47, none⟩, []⟩,
      ⟨⟨.bin .leq 3 .num (.slot 46) (.slot 47), some 48, none⟩, []⟩,
      ⟨⟨.mv (.slot 48), some 49, none⟩, []⟩,
      ⟨⟨.mv (.slot 0), some 50, some (49, true)⟩, []⟩,
      ⟨⟨.mv (.slot 1), some 51, some (49, true)⟩, []⟩,
      ⟨⟨.iaddr 1 (.slot 50) (.slot 51), some 52, some (49, true)⟩, []⟩,
      ⟨⟨.load false 1 (.slot 52), some 53, some (49, true)⟩, []⟩,
      ⟨⟨.mv (.slot 0), some 54, some (49, true)⟩, []⟩,
      ⟨⟨.mv (.slot 10), some 55, some (49, true)⟩, []⟩,
      ⟨⟨.iaddr 1 (.slot 54) (.slot 55), some 56, some (49, true)⟩, []⟩,
      ⟨⟨.load false 1 (.slot 56), some 57, some (49, true)⟩, []⟩,
      ⟨⟨.call (.const (.func 110 [] [])) [(.slot 53), (.slot 57)], some 58, some (49, true)⟩, []⟩,
      ⟨⟨.pick (.slot 49) (.slot 58) (.const (.bool false)), some 59, none⟩, []⟩])
    (.cond (.slot 59)
     .skip
     (.exit 4)))
    (.block 5 (.region false [⟨⟨.mv (.slot 10), some 60, none⟩, []⟩,
      ⟨⟨.bin .sub 3 .num (.slot 60) (.const (.int .i64 (.ofNat 1))), some 61, none⟩, []⟩,
      ⟨⟨.mv (.slot 61), some 10, none⟩, []⟩])))))
   (.seq (.seq (.region false [⟨⟨.mv (.slot 9), some 62, none⟩, []⟩,
     ⟨⟨.mv (.slot 10), some 63, none⟩, []⟩,
     ⟨⟨.bin .gtr 3 .num (.slot 62) (.slot 63), some 64, none⟩, []⟩])
   (.cond (.slot 64)
    (.exit 0)
    .skip))
   (.seq (.region true [⟨⟨.mv (.slot 0), some 65, none⟩, []⟩,
     ⟨⟨.mv (.slot 9), some 66, none⟩, []⟩,
     ⟨⟨.mv (.slot 0), some 67, none⟩, []⟩,
     ⟨⟨.mv (.slot 10), some 68, none⟩, []⟩,
     ⟨⟨.mv (.slot 0), some 69, none⟩, []⟩,
     ⟨⟨.mv (.slot 10), some 70, none⟩, []⟩,
     ⟨⟨.iaddr 1 (.slot 69) (.slot 70), some 71, none⟩, []⟩,
     ⟨⟨.load false 1 (.slot 71), some 72, none⟩, []⟩,
     ⟨⟨.mv (.slot 0), some 73, none⟩, []⟩,
     ⟨⟨.mv (.slot 9), some 74, none⟩, []⟩,
     ⟨⟨.iaddr 1 (.slot 73) (.slot 74), some 75, none⟩, []⟩,
     ⟨⟨.load false 1 (.slot 75), some 76, none⟩, []⟩,
     ⟨⟨.iaddr 1 (.slot 65) (.slot 66), some 77, none⟩, []⟩,
     ⟨⟨.store 1 (.slot 77) (.slot 72), none, none⟩, []⟩,
     ⟨⟨.iaddr 1 (.slot 67) (.slot 68), some 78, none⟩, []⟩,
     ⟨⟨.store 1 (.slot 78) (.slot 76), none, none⟩, []⟩])
   (.seq (.region false [⟨⟨.mv (.slot 9), some 79, none⟩, []⟩,
     ⟨⟨.bin .add 3 .num (.slot 79) (.const (.int .i64 (.ofNat 1))), some 80, none⟩, []⟩,
     ⟨⟨.mv (.slot 80), some 9, none⟩, []⟩])
   (.region false [⟨⟨.mv (.slot 10), some 81, none⟩, []⟩,
     ⟨⟨.bin .sub 3 .num (.slot 81) (.const (.int .i64 (.ofNat 1))), some 82, none⟩, []⟩,
     ⟨⟨.mv (.slot 82), some 10, none⟩, []⟩])))))))))
  (.seq (.region false [⟨⟨.mv (.slot 9), some 83, none⟩, []⟩,
    ⟨⟨.mv (.slot 83), some 8, none⟩, []⟩])
  .ret))))),
  [.tmp 8]⟩
theorem xf111_ok : compFunc Tryz.prog Tryz.f111 = some xf111 := by kernel_rfl
end Go.Proofs.YtdceckhkmfbpmaaGreat

/- The functions of the program in X's code, printed by a program of ours; each is what the program's own is turned to. -/
import Derived.Test.YtdegagpgjejomaaGreatProg
import Derived.Test.YtdegagpgjejomaaGreatXc
import Derived.KernelRfl
namespace Go.Proofs.YtdegagpgjejomaaGreat
open Go.Xr
/-- (*threshing/base.Base).keep -/
def xf50 : XFunc := ⟨(.seq (.region false [⟨⟨.box (.slot 1), some 3, none⟩, []⟩])
  (.seq (.region false [⟨⟨.faddr 2 (.slot 3), some 4, none⟩, []⟩,
    ⟨⟨.store 1 (.slot 4) (.const (.bool false)), none, none⟩, []⟩])
  (.region true [⟨⟨.mv (.slot 0), some 5, none⟩, []⟩,
    ⟨⟨.nilCheck (.slot 5), some 6, none⟩, []⟩,
    ⟨⟨.faddr 1 (.slot 6), some 7, none⟩, []⟩,
    ⟨⟨.load false 1 (.slot 7), some 8, none⟩, []⟩,
    ⟨⟨.faddr 0 (.slot 3), some 9, none⟩, []⟩,
    ⟨⟨.load false 1 (.slot 9), some 10, none⟩, []⟩,
    ⟨⟨.load true 3 (.slot 3), some 11, none⟩, []⟩,
    ⟨⟨.mapup .i64 (.slot 8) (.slot 10) (.slot 11), none, none⟩, []⟩]))),
  []⟩
theorem xf50_ok : compFunc Tryz.prog Tryz.f50 = some xf50 := by kernel_rfl
/-- slices.IndexFunc[threshing/api.Clause,threshing/api.Lit] -/
def xf51 : XFunc := ⟨(.seq (.region false [⟨⟨.mv (.const (.int .i64 (.ofNat 0))), some 4, none⟩, []⟩])
  (.seq (.seq (.region false [⟨⟨.mv (.slot 0), some 6, none⟩, []⟩,
    ⟨⟨.len .slice (.slot 6), some 7, none⟩, []⟩,
    ⟨⟨.mv (.const (.int .i64 (.ofNat 0))), some 8, none⟩, []⟩])
  (.block 0 (.loop (.seq (.region false [⟨⟨.bin .lss 3 .num (.slot 8) (.slot 7), some 9, none⟩, []⟩])
   (.seq (.cond (.slot 9)
    .skip
    (.exit 0))
   (.seq (.block 1 (.seq (.region false [⟨⟨.mv (.slot 8), some 10, none⟩, []⟩,
     ⟨⟨.mv (.slot 10), some 5, none⟩, []⟩])
   (.seq (.region false [⟨⟨.mv (.slot 1), some 11, none⟩, []⟩,
     ⟨⟨.mv (.slot 0), some 12, none⟩, []⟩,
     ⟨⟨.mv (.slot 5), some 13, none⟩, []⟩,
     ⟨⟨.iaddr 1 (.slot 12) (.slot 13), some 14, none⟩, []⟩,
     ⟨⟨.load false 1 (.slot 14), some 15, none⟩, []⟩,
     ⟨⟨.call (.slot 11) [(.slot 15)], some 16, none⟩, []⟩])
   (.cond (.slot 16)
    (.seq (.region false [⟨⟨.mv (.slot 5), some 17, none⟩, []⟩,
      ⟨⟨.mv (.slot 17), some 4, none⟩, []⟩])
    .ret)
    .skip))))
   (.region false [⟨⟨.bin .add 3 .num (.slot 8) (.const (.int .i64 (.ofNat 1))), some 18, none⟩, []⟩,
     ⟨⟨.mv (.slot 18), some 8, none⟩, []⟩])))))))
  (.seq (.region false [⟨⟨.mv (.const (.int .i64 (.negSucc 0))), some 4, none⟩, []⟩])
  .ret))),
  [.tmp 4]⟩
theorem xf51_ok : compFunc Tryz.prog Tryz.f51 = some xf51 := by kernel_rfl
/-- (threshing/cnf.lit).variable -/
def xf52 : XFunc := ⟨(.seq (.region false [⟨⟨.mv (.const (.int .i64 (.ofNat 0))), some 2, none⟩, []⟩])
  (.seq (.seq (.region false [⟨⟨.mv (.slot 0), some 3, none⟩, []⟩,
    ⟨⟨.bin .lss 102 .num (.slot 3) (.const (.int .i32 (.ofNat 0))), some 4, none⟩, []⟩])
  (.cond (.slot 4)
   (.seq (.region false [⟨⟨.mv (.slot 0), some 5, none⟩, []⟩,
     ⟨⟨.conv .i64 (.slot 5), some 6, none⟩, []⟩,
     ⟨⟨.un .neg (.slot 6), some 7, none⟩, []⟩,
     ⟨⟨.mv (.slot 7), some 2, none⟩, []⟩])
   .ret)
   .skip))
  (.seq (.region false [⟨⟨.mv (.slot 0), some 8, none⟩, []⟩,
    ⟨⟨.conv .i64 (.slot 8), some 9, none⟩, []⟩,
    ⟨⟨.mv (.slot 9), some 2, none⟩, []⟩])
  .ret))),
  [.tmp 2]⟩
theorem xf52_ok : compFunc Tryz.prog Tryz.f52 = some xf52 := by kernel_rfl
/-- slices.AppendSeq[[]int64,int64] -/
def xf53 : XFunc := ⟨(.seq (.region false [⟨⟨.box (.slot 0), some 2, none⟩, []⟩,
    ⟨⟨.mv (.const .nils), some 4, none⟩, []⟩])
  (.seq (.seq (.region false [⟨⟨.mv (.slot 1), some 6, none⟩, []⟩])
  (.block 0 (.rangeFunc (.slot 6) [7] (.region false [⟨⟨.mv (.slot 7), some 5, none⟩, []⟩])
  (.block 1 (.region false [⟨⟨.load false 1 (.slot 2), some 8, none⟩, []⟩,
    ⟨⟨.mv (.slot 5), some 9, none⟩, []⟩,
    ⟨⟨.bslice 1 [(.int .i64 (.ofNat 0))] [(0, 1, (.slot 9))] 1, some 10, none⟩, []⟩,
    ⟨⟨.append 1 8 (.slot 8) (.slot 10), some 11, none⟩, []⟩,
    ⟨⟨.store 1 (.slot 2) (.slot 11), none, none⟩, []⟩])))))
  (.seq (.region false [⟨⟨.load false 1 (.slot 2), some 12, none⟩, []⟩,
    ⟨⟨.mv (.slot 12), some 4, none⟩, []⟩])
  .ret))),
  [.tmp 4]⟩
theorem xf53_ok : compFunc Tryz.prog Tryz.f53 = some xf53 := by kernel_rfl
/-- slices.pdqsortOrdered[int64] -/
def xf54 : XFunc := ⟨(.seq (.region false [⟨⟨.mv (.const (.bool true)), some 8, none⟩, []⟩])
  (.seq (.region false [⟨⟨.mv (.const (.bool true)), some 9, none⟩, []⟩])
  (.block 0 (.loop (.block 1 (.seq (.region false [⟨⟨.mv (.slot 2), some 19, none⟩, []⟩,
     ⟨⟨.mv (.slot 1), some 20, none⟩, []⟩,
     ⟨⟨.bin .sub 3 .num (.slot 19) (.slot 20), some 21, none⟩, []⟩,
     ⟨⟨.mv (.slot 21), some 10, none⟩, []⟩])
   (.seq (.seq (.region false [⟨⟨.mv (.slot 10), some 22, none⟩, []⟩,
     ⟨⟨.bin .leq 3 .num (.slot 22) (.const (.int .i64 (.ofNat 12))), some 23, none⟩, []⟩])
   (.cond (.slot 23)
    (.seq (.region false [⟨⟨.mv (.slot 0), some 24, none⟩, []⟩,
      ⟨⟨.mv (.slot 1), some 25, none⟩, []⟩,
      ⟨⟨.mv (.slot 2), some 26, none⟩, []⟩,
      ⟨⟨.call (.const (.func 67 [] [])) [(.slot 24), (.slot 25), (.slot 26)], some 27, none⟩, []⟩])
    .ret)
    .skip))
   (.seq (.seq (.region false [⟨⟨.mv (.slot 3), some 28, none⟩, []⟩,
     ⟨⟨.bin .eql 3 .num (.slot 28) (.const (.int .i64 (.ofNat 0))), some 29, none⟩, []⟩])
   (.cond (.slot 29)
    (.seq (.region false [⟨⟨.mv (.slot 0), some 30, none⟩, []⟩,
      ⟨⟨.mv (.slot 1), some 31, none⟩, []⟩,
      ⟨⟨.mv (.slot 2), some 32, none⟩, []⟩,
      ⟨⟨.call (.const (.func 68 [] [])) [(.slot 30), (.slot 31), (.slot 32)], some 33, none⟩, []⟩])
    .ret)
    .skip))
   (.seq (.seq (.region false [⟨⟨.mv (.slot 8), some 34, none⟩, []⟩,
     ⟨⟨.un .not (.slot 34), some 35, none⟩, []⟩])
   (.cond (.slot 35)
    (.seq (.region false [⟨⟨.mv (.slot 0), some 36, none⟩, []⟩,
      ⟨⟨.mv (.slot 1), some 37, none⟩, []⟩,
      ⟨⟨.mv (.slot 2), some 38, none⟩, []⟩,
      ⟨⟨.call (.const (.func 69 [] [])) [(.slot 36), (.slot 37), (.slot 38)], some 39, none⟩, []⟩])
    (.region false [⟨⟨.mv (.slot 3), some 40, none⟩, []⟩,
      ⟨⟨.bin .sub 3 .num (.slot 40) (.const (.int .i64 (.ofNat 1))), some 41, none⟩, []⟩,
      ⟨⟨.mv (.slot 41), some 3, none⟩, []⟩]))
    .skip))
   (.seq (.region false [⟨⟨.mv (.slot 0), some 43, none⟩, []⟩,
     ⟨⟨.mv (.slot 1), some 44, none⟩, []⟩,
     ⟨⟨.mv (.slot 2), some 45, none⟩, []⟩,
     ⟨⟨.call (.const (.func 70 [] [])) [(.slot 43), (.slot 44), (.slot 45)], some 46, none⟩, []⟩,
     ⟨⟨.mv (.slot 46), some 42, none⟩, []⟩,
     ⟨⟨.extract (.slot 42) 0, some 47, none⟩, []⟩,
     ⟨⟨.extract (.slot 42) 1, some 48, none⟩, []⟩,
     ⟨⟨.mv (.slot 47), some 11, none⟩, []⟩,
     ⟨⟨.mv (.slot 48), some 12, none⟩, []⟩])
   (.seq (.seq (.region false [⟨⟨.mv (.slot 12), some 49, none⟩, []⟩,
     ⟨⟨.bin .eql 125 .num (.slot 49) (.const (.int .i64 (.ofNat 2))), some 50, none⟩, []⟩])
   (.cond (.slot 50)
    (.seq (.region false [⟨⟨.mv (.slot 0), some 51, none⟩, []⟩,
      ⟨⟨.mv (.slot 1), some 52, none⟩, []⟩,
      ⟨⟨.mv (.slot 2), some 53, none⟩, []⟩,
      ⟨⟨.call (.const (.func 71 [] [])) [(.slot 51), (.slot 52), (.slot 53)], some 54, none⟩, []⟩])
    (.seq (.region false [⟨⟨.mv (.slot 2), some 55, none⟩, []⟩,
      ⟨⟨.bin .sub 3 .num (.slot 55) (.const (.int .i64 (.ofNat 1))), some 56, none⟩, []⟩,
      ⟨⟨.mv (.slot 11), some 57, none⟩, []⟩,
      ⟨⟨.mv (.slot 1), some 58, none⟩, []⟩,
      ⟨⟨.bin .sub 3 .num (.slot 57) (.slot 58), some 59, none⟩, []⟩,
      ⟨⟨.bin .sub 3 .num (.slot 56) (.slot 59), some 60, none⟩, []⟩,
      ⟨⟨.mv (.slot 60), some 11, none⟩, []⟩])
    (.region false [⟨⟨.mv (.const (.int .i64 (.ofNat 1))), some 12, none⟩, []⟩])))
    .skip))
   (.seq (.seq (.region false [⟨⟨.mv (.slot 8), some 61, none⟩, []⟩,
     ⟨⟨.mv (.slot 61), some 62, none⟩, []⟩,
     ⟨⟨.mv (.slot 9), some 63, some (62, true)⟩, []⟩,
     ⟨⟨.pick (.slot 62) (.slot 63) (.const (.bool false)), some 64, none⟩, []⟩,
     ⟨⟨.mv (.slot 64), some 65, none⟩, []⟩,
     ⟨⟨.mv (.slot 12), some 66, some (65, true)⟩, []⟩,
     ⟨⟨.bin .eql 125 .num (.slot 66) (.const (.int .i64 (.ofNat 1))), some 67, some (65, true)⟩, []⟩,
     ⟨⟨.pick (.slot 65) (.slot 67) (.const (.bool false)), some 68, none⟩, []⟩])
   (.cond (.slot 68)
    (.seq (.region false [⟨⟨.mv (.slot 0), some 69, none⟩, []⟩,
      ⟨⟨.mv (.slot 1), some 70, none⟩, []⟩,
      ⟨⟨.mv (.slot 2), some 71, none⟩, []⟩,
      ⟨⟨.call (.const (.func 72 [] [])) [(.slot 69), (.slot 70), (.slot 71)], some 72, none⟩, []⟩])
    (.cond (.slot 72)
     .ret
     .skip))
    .skip))
   (.seq (.seq (.region true [⟨⟨.mv (.slot 1), some 73, none⟩, []⟩,
     ⟨⟨.bin .gtr 3 .num (.slot 73) (.const (.int .i64 (.ofNat 0))), some 74, none⟩, []⟩,
     ⟨⟨.mv (.slot 74), some 75, none⟩, []⟩,
     ⟨⟨.mv (.slot 0), some 76, some (75, true)⟩, []⟩,
     ⟨⟨.mv (.slot 1), some 77, some (75, true)⟩, []⟩,
     ⟨⟨.bin .sub 3 .num (.slot 77) (.const (.int .i64 (.ofNat 1))), some 78, some (75, true)⟩, []⟩,
     ⟨⟨.iaddr 1 (.slot 76) (.slot 78), some 79, some (75, true)⟩, []⟩,
     ⟨⟨.load false 1 (.slot 79), some 80, some (75, true)⟩, []⟩,
     ⟨⟨.mv (.slot 0), some 81, some (75, true)⟩, []⟩,
     ⟨⟨.mv (.slot 11), some 82, some (75, true)⟩, []⟩,
     ⟨⟨.iaddr 1 (.slot 81) (.slot 82), some 83, some (75, true)⟩, []⟩,
     ⟨⟨.load false 1 (.slot 83), some 84, some (75, true)⟩, []⟩,
     ⟨⟨.call (.const (.func 73 [] [])) [(.slot 80), (.slot 84)], some 85, some (75, true)⟩, []⟩,
     ⟨⟨.un .not (.slot 85), some 86, some (75, true)⟩, []⟩,
     ⟨⟨.pick (.slot 75) (.slot 86) (.const (.bool false)), some 87, none⟩, []⟩])
   (.cond (.slot 87)
    (.seq (.region false [⟨⟨.mv (.slot 0), some 88, none⟩, []⟩,
      ⟨⟨.mv (.slot 1), some 89, none⟩, []⟩,
      ⟨⟨.mv (.slot 2), some 90, none⟩, []⟩,
      ⟨⟨.mv (.slot 11), some 91, none⟩, []⟩,
      ⟨⟨.call (.const (.func 74 [] [])) [(.slot 88), (.slot 89), (.slot 90), (.slot 91)], some 92, none⟩, []⟩,
      ⟨⟨.mv (.slot 92), some 13, none⟩, []⟩])
    (.seq (.region false [⟨⟨.mv (.slot 13), some 93, none⟩, []⟩,
      ⟨⟨.mv (.slot 93), some 1, none⟩, []⟩])
    (.exit 1)))
    .skip))
   (.seq (.region false [⟨⟨.mv (.slot 0), some 95, none⟩, []⟩,
     ⟨⟨.mv (.slot 1), some 96, none⟩, []⟩,
     ⟨⟨.mv (.slot 2), some 97, none⟩, []⟩,
     ⟨⟨.mv (.slot 11), some 98, none⟩, []⟩,
     ⟨⟨.call (.const (.func 75 [] [])) [(.slot 95), (.slot 96), (.slot 97), (.slot 98)], some 99, none⟩, []⟩,
     ⟨⟨.mv (.slot 99), some 94, none⟩, []⟩,
     ⟨⟨.extract (.slot 94) 0, some 100, none⟩, []⟩,
     ⟨⟨.extract (.slot 94) 1, some 101, none⟩, []⟩,
     ⟨⟨.mv (.slot 100), some 14, none⟩, []⟩,
     ⟨⟨.mv (.slot 101), some 15, none⟩, []⟩])
   (.seq (.region false [⟨⟨.mv (.slot 15), some 102, none⟩, []⟩,
     ⟨⟨.mv (.slot 102), some 9, none⟩, []⟩])
   (.seq (.region false [⟨⟨.mv (.slot 14), some 103, none⟩, []⟩,
     ⟨⟨.mv (.slot 1), some 104, none⟩, []⟩,
     ⟨⟨.bin .sub 3 .num (.slot 103) (.slot 104), some 105, none⟩, []⟩,
     ⟨⟨.mv (.slot 2), some 106, none⟩, []⟩,
     ⟨⟨.mv (.slot 14), some 107, none⟩, []⟩,
     ⟨⟨.bin .sub 3 .num (.slot 106) (.slot 107), some 108, none⟩, []⟩,
     ⟨⟨.mv (.slot 105), some 16, none⟩, []⟩,
     ⟨⟨.mv (.slot 108), some 17, none⟩, []⟩])
   (.seq (.region false [⟨⟨.mv (.slot 10), some 109, none⟩, []⟩,
     ⟨⟨.bin .quo 3 .num (.slot 109) (.const (.int .i64 (.ofNat 8))), some 110, none⟩, []⟩,
     ⟨⟨.mv (.slot 110), some 18, none⟩, []⟩])
   (.seq (.region false [⟨⟨.mv (.slot 16), some 111, none⟩, []⟩,
     ⟨⟨.mv (.slot 17), some 112, none⟩, []⟩,
     ⟨⟨.bin .lss 3 .num (.slot 111) (.slot 112), some 113, none⟩, []⟩])
   (.cond (.slot 113)
    (.seq (.region false [⟨⟨.mv (.slot 16), some 114, none⟩, []⟩,
      ⟨⟨.mv (.slot 18), some 115, none⟩, []⟩,
      ⟨⟨.bin .geq 3 .num (.slot 114) (.slot 115), some 116, none⟩, []⟩,
      ⟨⟨.mv (.slot 116), some 8, none⟩, []⟩])
    (.seq (.region false [⟨⟨.mv (.slot 0), some 117, none⟩, []⟩,
      ⟨⟨.mv (.slot 1), some 118, none⟩, []⟩,
      ⟨⟨.mv (.slot 14), some 119, none⟩, []⟩,
      ⟨⟨.mv (.slot 3), some 120, none⟩, []⟩,
      ⟨⟨.call (.const (.func 54 [] [])) [(.slot 117), (.slot 118), (.slot 119), (.slot 120)], some 121, none⟩, []⟩])
    (.region false [⟨⟨.mv (.slot 14), some 122, none⟩, []⟩,
      ⟨⟨.bin .add 3 .num (.slot 122) (.const (.int .i64 (.ofNat 1))), some 123, none⟩, []⟩,
      ⟨⟨.mv (.slot 123), some 1, none⟩, []⟩])))
    (.seq (.region false [⟨⟨.mv (.slot 17), some 124, none⟩, []⟩,
      ⟨⟨.mv (.slot 18), some 125, none⟩, []⟩,
      ⟨⟨.bin .geq 3 .num (.slot 124) (.slot 125), some 126, none⟩, []⟩,
      ⟨⟨.mv (.slot 126), some 8, none⟩, []⟩])
    (.seq (.region false [⟨⟨.mv (.slot 0), some 127, none⟩, []⟩,
      ⟨⟨.mv (.slot 14), some 128, none⟩, []⟩,
      ⟨⟨.bin .add 3 .num (.slot 128) (.const (.int .i64 (.ofNat 1))), some 129, none⟩, []⟩,
      ⟨⟨.mv (.slot 2), some 130, none⟩, []⟩,
      ⟨⟨.mv (.slot 3), some 131, none⟩, []⟩,
      ⟨⟨.call (.const (.func 54 [] [])) [(.slot 127), (.slot 129), (.slot 130), (.slot 131)], some 132, none⟩, []⟩])
    (.region false [⟨⟨.mv (.slot 14), some 133, none⟩, []⟩,
      ⟨⟨.mv (.slot 133), some 2, none⟩, []⟩])))))))))))))))))))))),
  []⟩
theorem xf54_ok : compFunc Tryz.prog Tryz.f54 = some xf54 := by kernel_rfl
/-- math/bits.Len -/
def xf55 : XFunc := ⟨(.seq (.region false [⟨⟨.mv (.const (.int .i64 (.ofNat 0))), some 2, none⟩, []⟩])
  (.seq (.cond (.const (.bool false))
   (.seq (.region false [⟨⟨.mv (.slot 0), some 3, none⟩, []⟩,
     ⟨⟨.conv .u32 (.slot 3), some 4, none⟩, []⟩,
     ⟨⟨.call (.const (.func 76 [] [])) [(.slot 4)], some 5, none⟩, []⟩,
     ⟨⟨.mv (.slot 5), some 2, none⟩, []⟩])
   .ret)
   .skip)
  (.seq (.region false [⟨⟨.mv (.slot 0), some 6, none⟩, []⟩,
    ⟨⟨.call (.const (.func 77 [] [])) [(.slot 6)], some 7, none⟩, []⟩,
    ⟨⟨.mv (.slot 7), some 2, none⟩, []⟩])
  .ret))),
  [.tmp 2]⟩
theorem xf55_ok : compFunc Tryz.prog Tryz.f55 = some xf55 := by kernel_rfl
/-- slices.pdqsortCmpFunc[threshing/api.Lit] -/
def xf56 : XFunc := ⟨(.seq (.region false [⟨⟨.mv (.const (.bool true)), some 10, none⟩, []⟩])
  (.seq (.region false [⟨⟨.mv (.const (.bool true)), some 11, none⟩, []⟩])
  (.block 0 (.loop (.block 1 (.seq (.region false [⟨⟨.mv (.slot 2), some 21, none⟩, []⟩,
     ⟨⟨.mv (.slot 1), some 22, none⟩, []⟩,
     ⟨⟨.bin .sub 3 .num (.slot 21) (.slot 22), some 23, none⟩, []⟩,
     ⟨⟨.mv (.slot 23), some 12, none⟩, []⟩])
   (.seq (.seq (.region false [⟨⟨.mv (.slot 12), some 24, none⟩, []⟩,
     ⟨⟨.bin .leq 3 .num (.slot 24) (.const (.int .i64 (.ofNat 12))), some 25, none⟩, []⟩])
   (.cond (.slot 25)
    (.seq (.region false [⟨⟨.mv (.slot 0), some 26, none⟩, []⟩,
      ⟨⟨.mv (.slot 1), some 27, none⟩, []⟩,
      ⟨⟨.mv (.slot 2), some 28, none⟩, []⟩,
      ⟨⟨.mv (.slot 4), some 29, none⟩, []⟩,
      ⟨⟨.call (.const (.func 78 [] [])) [(.slot 26), (.slot 27), (.slot 28), (.slot 29)], some 30, none⟩, []⟩])
    .ret)
    .skip))
   (.seq (.seq (.region false [⟨⟨.mv (.slot 3), some 31, none⟩, []⟩,
     ⟨⟨.bin .eql 3 .num (.slot 31) (.const (.int .i64 (.ofNat 0))), some 32, none⟩, []⟩])
   (.cond (.slot 32)
    (.seq (.region false [⟨⟨.mv (.slot 0), some 33, none⟩, []⟩,
      ⟨⟨.mv (.slot 1), some 34, none⟩, []⟩,
      ⟨⟨.mv (.slot 2), some 35, none⟩, []⟩,
      ⟨⟨.mv (.slot 4), some 36, none⟩, []⟩,
      ⟨⟨.call (.const (.func 79 [] [])) [(.slot 33), (.slot 34), (.slot 35), (.slot 36)], some 37, none⟩, []⟩])
    .ret)
    .skip))
   (.seq (.seq (.region false [⟨⟨.mv (.slot 10), some 38, none⟩, []⟩,
     ⟨⟨.un .not (.slot 38), some 39, none⟩, []⟩])
   (.cond (.slot 39)
    (.seq (.region false [⟨⟨.mv (.slot 0), some 40, none⟩, []⟩,
      ⟨⟨.mv (.slot 1), some 41, none⟩, []⟩,
      ⟨⟨.mv (.slot 2), some 42, none⟩, []⟩,
      ⟨⟨.mv (.slot 4), some 43, none⟩, []⟩,
      ⟨⟨.call (.const (.func 80 [] [])) [(.slot 40), (.slot 41), (.slot 42), (.slot 43)], some 44, none⟩, []⟩])
    (.region false [⟨⟨.mv (.slot 3), some 45, none⟩, []⟩,
      ⟨⟨.bin .sub 3 .num (.slot 45) (.const (.int .i64 (.ofNat 1))), some 46, none⟩, []⟩,
      ⟨⟨.mv (.slot 46), some 3, none⟩, []⟩]))
    .skip))
   (.seq (.region false [⟨⟨.mv (.slot 0), some 48, none⟩, []⟩,
     ⟨⟨.mv (.slot 1), some 49, none⟩, []⟩,
     ⟨⟨.mv (.slot 2), some 50, none⟩, []⟩,
     ⟨⟨.mv (.slot 4), some 51, none⟩, []⟩,
     ⟨⟨.call (.const (.func 81 [] [])) [(.slot 48), (.slot 49), (.slot 50), (.slot 51)], some 52, none⟩, []⟩,
     ⟨⟨.mv (.slot 52), some 47, none⟩, []⟩,
     ⟨⟨.extract (.slot 47) 0, some 53, none⟩, []⟩,
     ⟨⟨.extract (.slot 47) 1, some 54, none⟩, []⟩,
     ⟨⟨.mv (.slot 53), some 13, none⟩, []⟩,
     ⟨⟨.mv (.slot 54), some 14, none⟩, []⟩])
   (.seq (.seq (.region false [⟨⟨.mv (.slot 14), some 55, none⟩, []⟩,
     ⟨⟨.bin .eql 125 .num (.slot 55) (.const (.int .i64 (.ofNat 2))), some 56, none⟩, []⟩])
   (.cond (.slot 56)
    (.seq (.region false [⟨⟨.mv (.slot 0), some 57, none⟩, []⟩,
      ⟨⟨.mv (.slot 1), some 58, none⟩, []⟩,
      ⟨⟨.mv (.slot 2), some 59, none⟩, []⟩,
      ⟨⟨.mv (.slot 4), some 60, none⟩, []⟩,
      ⟨⟨.call (.const (.func 82 [] [])) [(.slot 57), (.slot 58), (.slot 59), (.slot 60)], some 61, none⟩, []⟩])
    (.seq (.region false [⟨⟨.mv (.slot 2), some 62, none⟩, []⟩,
      ⟨⟨.bin .sub 3 .num (.slot 62) (.const (.int .i64 (.ofNat 1))), some 63, none⟩, []⟩,
      ⟨⟨.mv (.slot 13), some 64, none⟩, []⟩,
      ⟨⟨.mv (.slot 1), some 65, none⟩, []⟩,
      ⟨⟨.bin .sub 3 .num (.slot 64) (.slot 65), some 66, none⟩, []⟩,
      ⟨⟨.bin .sub 3 .num (.slot 63) (.slot 66), some 67, none⟩, []⟩,
      ⟨⟨.mv (.slot 67), some 13, none⟩, []⟩])
    (.region false [⟨⟨.mv (.const (.int .i64 (.ofNat 1))), some 14, none⟩, []⟩])))
    .skip))
   (.seq (.seq (.region false [⟨⟨.mv (.slot 10), some 68, none⟩, []⟩,
     ⟨⟨.mv (.slot 68), some 69, none⟩, []⟩,
     ⟨⟨.mv (.slot 11), some 70, some (69, true)⟩, []⟩,
     ⟨⟨.pick (.slot 69) (.slot 70) (.const (.bool false)), some 71, none⟩, []⟩,
     ⟨⟨.mv (.slot 71), some 72, none⟩, []⟩,
     ⟨⟨.mv (.slot 14), some 73, some (72, true)⟩, []⟩,
     ⟨⟨.bin .eql 125 .num (.slot 73) (.const (.int .i64 (.ofNat 1))), some 74, some (72, true)⟩, []⟩,
     ⟨⟨.pick (.slot 72) (.slot 74) (.const (.bool false)), some 75, none⟩, []⟩])
   (.cond (.slot 75)
    (.seq (.region false [⟨⟨.mv (.slot 0), some 76, none⟩, []⟩,
      ⟨⟨.mv (.slot 1), some 77, none⟩, []⟩,
      ⟨⟨.mv (.slot 2), some 78, none⟩, []⟩,
      ⟨⟨.mv (.slot 4), some 79, none⟩, []⟩,
      ⟨⟨.call (.const (.func 83 [] [])) [(.slot 76), (.slot 77), (.slot 78), (.slot 79)], some 80, none⟩, []⟩])
    (.cond (.slot 80)
     .ret
     .skip))
    .skip))
   (.seq (.seq (.region true [⟨⟨.mv (.slot 1), some 81, none⟩, []⟩,
     ⟨⟨.bin .gtr 3 .num (.slot 81) (.const (.int .i64 (.ofNat 0))), some 82, none⟩, []⟩,
     ⟨⟨.mv (.slot 82), some 83, none⟩, []⟩,
     ⟨⟨.mv (.slot 4), some 84, some (83, true)⟩, []⟩,
     ⟨⟨.mv (.slot 0), some 85, some (83, true)⟩, []⟩,
     ⟨⟨.mv (.slot 1), some 86, some (83, true)⟩, []⟩,
     ⟨⟨.bin .sub 3 .num (.slot 86) (.const (.int .i64 (.ofNat 1))), some 87, some (83, true)⟩, []⟩,
     ⟨⟨.iaddr 1 (.slot 85) (.slot 87), some 88, some (83, true)⟩, []⟩,
     ⟨⟨.load false 1 (.slot 88), some 89, some (83, true)⟩, []⟩,
     ⟨⟨.mv (.slot 0), some 90, some (83, true)⟩, []⟩,
     ⟨⟨.mv (.slot 13), some 91, some (83, true)⟩, []⟩,
     ⟨⟨.iaddr 1 (.slot 90) (.slot 91), some 92, some (83, true)⟩, []⟩,
     ⟨⟨.load false 1 (.slot 92), some 93, some (83, true)⟩, []⟩,
     ⟨⟨.call (.slot 84) [(.slot 89), (.slot 93)], some 94, some (83, true)⟩, []⟩,
     ⟨⟨.bin .lss 3 .num (.slot 94) (.const (.int .i64 (.ofNat 0))), some 95, some (83, true)⟩, []⟩,
     ⟨⟨.un .not (.slot 95), some 96, some (83, true)⟩, []⟩,
     ⟨⟨.pick (.slot 83) (.slot 96) (.const (.bool false)), some 97, none⟩, []⟩])
   (.cond (.slot 97)
    (.seq (.region false [⟨⟨.mv (.slot 0), some 98, none⟩, []⟩,
      ⟨⟨.mv (.slot 1), some 99, none⟩, []⟩,
      ⟨⟨.mv (.slot 2), some 100, none⟩, []⟩,
      ⟨⟨.mv (.slot 13), some 101, none⟩, []⟩,
      ⟨⟨.mv (.slot 4), some 102, none⟩, []⟩,
      ⟨⟨.call (.const (.func 84 [] [])) [(.slot 98), (.slot 99), (.slot 100), (.slot 101), (.slot 102)], some 103, none⟩, []⟩,
      ⟨⟨.mv (.slot 103), some 15, none⟩, []⟩])
    (.seq (.region false [⟨⟨.mv (.slot 15), some 104, none⟩, []⟩,
      ⟨⟨.mv (.slot 104), some 1, none⟩, []⟩])
    (.exit 1)))
    .skip))
   (.seq (.region false [⟨⟨.mv (.slot 0), some 106, none⟩, []⟩,
     ⟨⟨.mv (.slot 1), some 107, none⟩, []⟩,
     ⟨⟨.mv (.slot 2), some 108, none⟩, []⟩,
     ⟨⟨.mv (.slot 13), some 109, none⟩, []⟩,
     ⟨⟨.mv (.slot 4), some 110, none⟩, []⟩,
     ⟨⟨.call (.const (.func 85 [] [])) [(.slot 106), (.slot 107), (.slot 108), (.slot 109), (.slot 110)], some 111, none⟩, []⟩,
     ⟨⟨.mv (.slot 111), some 105, none⟩, []⟩,
     ⟨⟨.extract (.slot 105) 0, some 112, none⟩, []⟩,
     ⟨⟨.extract (.slot 105) 1, some 113, none⟩, []⟩,
     ⟨⟨.mv (.slot 112), some 16, none⟩, []⟩,
     ⟨⟨.mv (.slot 113), some 17, none⟩, []⟩])
   (.seq (.region false [⟨⟨.mv (.slot 17), some 114, none⟩, []⟩,
     ⟨⟨.mv (.slot 114), some 11, none⟩, []⟩])
   (.seq (.region false [⟨⟨.mv (.slot 16), some 115, none⟩, []⟩,
     ⟨⟨.mv (.slot 1), some 116, none⟩, []⟩,
     ⟨⟨.bin .sub 3 .num (.slot 115) (.slot 116), some 117, none⟩, []⟩,
     ⟨⟨.mv (.slot 2), some 118, none⟩, []⟩,
     ⟨⟨.mv (.slot 16), some 119, none⟩, []⟩,
     ⟨⟨.bin .sub 3 .num (.slot 118) (.slot 119), some 120, none⟩, []⟩,
     ⟨⟨.mv (.slot 117), some 18, none⟩, []⟩,
     ⟨⟨.mv (.slot 120), some 19, none⟩, []⟩])
   (.seq (.region false [⟨⟨.mv (.slot 12), some 121, none⟩, []⟩,
     ⟨⟨.bin .quo 3 .num (.slot 121) (.const (.int .i64 (.ofNat 8))), some 122, none⟩, []⟩,
     ⟨⟨.mv (.slot 122), some 20, none⟩, []⟩])
   (.seq (.region false [⟨⟨.mv (.slot 18), some 123, none⟩, []⟩,
     ⟨⟨.mv (.slot 19), some 124, none⟩, []⟩,
     ⟨⟨.bin .lss 3 .num (.slot 123) (.slot 124), some 125, none⟩, []⟩])
   (.cond (.slot 125)
    (.seq (.region false [⟨⟨.mv (.slot 18), some 126, none⟩, []⟩,
      ⟨⟨.mv (.slot 20), some 127, none⟩, []⟩,
      ⟨⟨.bin .geq 3 .num (.slot 126) (.slot 127), some 128, none⟩, []⟩,
      ⟨⟨.mv (.slot 128), some 10, none⟩, []⟩])
    (.seq (.region false [⟨⟨.mv (.slot 0), some 129, none⟩, []⟩,
      ⟨⟨.mv (.slot 1), some 130, none⟩, []⟩,
      ⟨⟨.mv (.slot 16), some 131, none⟩, []⟩,
      ⟨⟨.mv (.slot 3), some 132, none⟩, []⟩,
      ⟨⟨.mv (.slot 4), some 133, none⟩, []⟩,
      ⟨⟨.call (.const (.func 56 [] [])) [(.slot 129), (.slot 130), (.slot 131), (.slot 132), (.slot 133)], some 134, none⟩, []⟩])
    (.region false [⟨⟨.mv (.slot 16), some 135, none⟩, []⟩,
      ⟨⟨.bin .add 3 .num (.slot 135) (.const (.int .i64 (.ofNat 1))), some 136, none⟩, []⟩,
      ⟨⟨.mv (.slot 136), some 1, none⟩, []⟩])))
    (.seq (.region false [⟨⟨.mv (.slot 19), some 137, none⟩, []⟩,
      ⟨⟨.mv (.slot 20), some 138, none⟩, []⟩,
      ⟨⟨.bin .geq 3 .num (.slot 137) (.slot 138), some 139, none⟩, []⟩,
      ⟨⟨.mv (.slot 139), some 10, none⟩, []⟩])
    (.seq (.region false [⟨⟨.mv (.slot 0), some 140, none⟩, []⟩,
      ⟨⟨.mv (.slot 16), some 141, none⟩, []⟩,
      ⟨⟨.bin .add 3 .num (.slot 141) (.const (.int .i64 (.ofNat 1))), some 142, none⟩, []⟩,
      ⟨⟨.mv (.slot 2), some 143, none⟩, []⟩,
      ⟨⟨.mv (.slot 3), some 144, none⟩, []⟩,
      ⟨⟨.mv (.slot 4), some 145, none⟩, []⟩,
      ⟨⟨.call (.const (.func 56 [] [])) [(.slot 140), (.slot 142), (.slot 143), (.slot 144), (.slot 145)], some 146, none⟩, []⟩])
    (.region false [⟨⟨.mv (.slot 16), some 147, none⟩, []⟩,
      ⟨⟨.mv (.slot 147), some 2, none⟩, []⟩])))))))))))))))))))))),
  []⟩
theorem xf56_ok : compFunc Tryz.prog Tryz.f56 = some xf56 := by kernel_rfl
/-- cmp.Or[int] -/
def xf57 : XFunc := ⟨(.seq (.region false [⟨⟨.mv (.const (.int .i64 (.ofNat 0))), some 2, none⟩, []⟩])
  (.seq (.region false [⟨⟨.mv (.const (.int .i64 (.ofNat 0))), some 3, none⟩, []⟩])
  (.seq (.seq (.region false [⟨⟨.mv (.slot 0), some 6, none⟩, []⟩,
    ⟨⟨.len .slice (.slot 6), some 7, none⟩, []⟩,
    ⟨⟨.mv (.const (.int .i64 (.ofNat 0))), some 8, none⟩, []⟩])
  (.block 0 (.loop (.seq (.region false [⟨⟨.bin .lss 3 .num (.slot 8) (.slot 7), some 9, none⟩, []⟩])
   (.seq (.cond (.slot 9)
    .skip
    (.exit 0))
   (.seq (.block 1 (.seq (.region false [⟨⟨.iaddr 1 (.slot 6) (.slot 8), some 10, none⟩, []⟩,
     ⟨⟨.load false 1 (.slot 10), some 11, none⟩, []⟩,
     ⟨⟨.mv (.slot 11), some 5, none⟩, []⟩])
   (.seq (.region false [⟨⟨.mv (.slot 5), some 12, none⟩, []⟩,
     ⟨⟨.mv (.slot 3), some 13, none⟩, []⟩,
     ⟨⟨.bin .neq 3 .num (.slot 12) (.slot 13), some 14, none⟩, []⟩])
   (.cond (.slot 14)
    (.seq (.region false [⟨⟨.mv (.slot 5), some 15, none⟩, []⟩,
      ⟨⟨.mv (.slot 15), some 2, none⟩, []⟩])
    .ret)
    .skip))))
   (.region false [⟨⟨.bin .add 3 .num (.slot 8) (.const (.int .i64 (.ofNat 1))), some 16, none⟩, []⟩,
     ⟨⟨.mv (.slot 16), some 8, none⟩, []⟩])))))))
  (.seq (.region false [⟨⟨.mv (.slot 3), some 17, none⟩, []⟩,
    ⟨⟨.mv (.slot 17), some 2, none⟩, []⟩])
  .ret)))),
  [.tmp 2]⟩
theorem xf57_ok : compFunc Tryz.prog Tryz.f57 = some xf57 := by kernel_rfl
/-- cmp.Compare[int] -/
def xf58 : XFunc := ⟨(.seq (.region false [⟨⟨.mv (.const (.int .i64 (.ofNat 0))), some 4, none⟩, []⟩])
  (.seq (.region false [⟨⟨.mv (.slot 0), some 7, none⟩, []⟩,
    ⟨⟨.call (.const (.func 86 [] [])) [(.slot 7)], some 8, none⟩, []⟩,
    ⟨⟨.mv (.slot 8), some 5, none⟩, []⟩])
  (.seq (.region false [⟨⟨.mv (.slot 1), some 9, none⟩, []⟩,
    ⟨⟨.call (.const (.func 86 [] [])) [(.slot 9)], some 10, none⟩, []⟩,
    ⟨⟨.mv (.slot 10), some 6, none⟩, []⟩])
  (.seq (.seq (.region false [⟨⟨.mv (.slot 5), some 11, none⟩, []⟩])
  (.cond (.slot 11)
   (.seq (.seq (.region false [⟨⟨.mv (.slot 6), some 12, none⟩, []⟩])
   (.cond (.slot 12)
    (.seq (.region false [⟨⟨.mv (.const (.int .i64 (.ofNat 0))), some 4, none⟩, []⟩])
    .ret)
    .skip))
   (.seq (.region false [⟨⟨.mv (.const (.int .i64 (.negSucc 0))), some 4, none⟩, []⟩])
   .ret))
   .skip))
  (.seq (.seq (.region false [⟨⟨.mv (.slot 6), some 13, none⟩, []⟩])
  (.cond (.slot 13)
   (.seq (.region false [⟨⟨.mv (.const (.int .i64 (.ofNat 1))), some 4, none⟩, []⟩])
   .ret)
   .skip))
  (.seq (.seq (.region false [⟨⟨.mv (.slot 0), some 14, none⟩, []⟩,
    ⟨⟨.mv (.slot 1), some 15, none⟩, []⟩,
    ⟨⟨.bin .lss 3 .num (.slot 14) (.slot 15), some 16, none⟩, []⟩])
  (.cond (.slot 16)
   (.seq (.region false [⟨⟨.mv (.const (.int .i64 (.negSucc 0))), some 4, none⟩, []⟩])
   .ret)
   .skip))
  (.seq (.seq (.region false [⟨⟨.mv (.slot 0), some 17, none⟩, []⟩,
    ⟨⟨.mv (.slot 1), some 18, none⟩, []⟩,
    ⟨⟨.bin .gtr 3 .num (.slot 17) (.slot 18), some 19, none⟩, []⟩])
  (.cond (.slot 19)
   (.seq (.region false [⟨⟨.mv (.const (.int .i64 (.ofNat 1))), some 4, none⟩, []⟩])
   .ret)
   .skip))
  (.seq (.region false [⟨⟨.mv (.const (.int .i64 (.ofNat 0))), some 4, none⟩, []⟩])
  .ret)))))))),
  [.tmp 4]⟩
theorem xf58_ok : compFunc Tryz.prog Tryz.f58 = some xf58 := by kernel_rfl
/-- cmp.Compare[threshing/api.Lit] -/
def xf59 : XFunc := ⟨(.seq (.region false [⟨⟨.mv (.const (.int .i64 (.ofNat 0))), some 4, none⟩, []⟩])
  (.seq (.region false [⟨⟨.mv (.slot 0), some 7, none⟩, []⟩,
    ⟨⟨.call (.const (.func 87 [] [])) [(.slot 7)], some 8, none⟩, []⟩,
    ⟨⟨.mv (.slot 8), some 5, none⟩, []⟩])
  (.seq (.region false [⟨⟨.mv (.slot 1), some 9, none⟩, []⟩,
    ⟨⟨.call (.const (.func 87 [] [])) [(.slot 9)], some 10, none⟩, []⟩,
    ⟨⟨.mv (.slot 10), some 6, none⟩, []⟩])
  (.seq (.seq (.region false [⟨⟨.mv (.slot 5), some 11, none⟩, []⟩])
  (.cond (.slot 11)
   (.seq (.seq (.region false [⟨⟨.mv (.slot 6), some 12, none⟩, []⟩])
   (.cond (.slot 12)
    (.seq (.region false [⟨⟨.mv (.const (.int .i64 (.ofNat 0))), some 4, none⟩, []⟩])
    .ret)
    .skip))
   (.seq (.region false [⟨⟨.mv (.const (.int .i64 (.negSucc 0))), some 4, none⟩, []⟩])
   .ret))
   .skip))
  (.seq (.seq (.region false [⟨⟨.mv (.slot 6), some 13, none⟩, []⟩])
  (.cond (.slot 13)
   (.seq (.region false [⟨⟨.mv (.const (.int .i64 (.ofNat 1))), some 4, none⟩, []⟩])
   .ret)
   .skip))
  (.seq (.seq (.region false [⟨⟨.mv (.slot 0), some 14, none⟩, []⟩,
    ⟨⟨.mv (.slot 1), some 15, none⟩, []⟩,
    ⟨⟨.bin .lss 24 .num (.slot 14) (.slot 15), some 16, none⟩, []⟩])
  (.cond (.slot 16)
   (.seq (.region false [⟨⟨.mv (.const (.int .i64 (.negSucc 0))), some 4, none⟩, []⟩])
   .ret)
   .skip))
  (.seq (.seq (.region false [⟨⟨.mv (.slot 0), some 17, none⟩, []⟩,
    ⟨⟨.mv (.slot 1), some 18, none⟩, []⟩,
    ⟨⟨.bin .gtr 24 .num (.slot 17) (.slot 18), some 19, none⟩, []⟩])
  (.cond (.slot 19)
   (.seq (.region false [⟨⟨.mv (.const (.int .i64 (.ofNat 1))), some 4, none⟩, []⟩])
   .ret)
   .skip))
  (.seq (.region false [⟨⟨.mv (.const (.int .i64 (.ofNat 0))), some 4, none⟩, []⟩])
  .ret)))))))),
  [.tmp 4]⟩
theorem xf59_ok : compFunc Tryz.prog Tryz.f59 = some xf59 := by kernel_rfl
/-- (*threshing/base.Base).Vars -/
def xf60 : XFunc := ⟨(.seq (.region false [⟨⟨.mv (.const (.int .i64 (.ofNat 0))), some 2, none⟩, []⟩])
  (.seq (.seq (.region false [⟨⟨.mv (.slot 0), some 3, none⟩, []⟩,
    ⟨⟨.bin .eql 22 .ptr (.slot 3) (.const .nilp), some 4, none⟩, []⟩])
  (.cond (.slot 4)
   (.seq (.region false [⟨⟨.mv (.const (.int .i64 (.ofNat 0))), some 2, none⟩, []⟩])
   .ret)
   .skip))
  (.seq (.region false [⟨⟨.mv (.slot 0), some 5, none⟩, []⟩,
    ⟨⟨.nilCheck (.slot 5), some 6, none⟩, []⟩,
    ⟨⟨.faddr 0 (.slot 6), some 7, none⟩, []⟩,
    ⟨⟨.load false 1 (.slot 7), some 8, none⟩, []⟩,
    ⟨⟨.mv (.slot 8), some 2, none⟩, []⟩])
  .ret))),
  [.tmp 2]⟩
theorem xf60_ok : compFunc Tryz.prog Tryz.f60 = some xf60 := by kernel_rfl
/-- container/heap.Init -/
def xf61 : XFunc := ⟨(.seq (.region false [⟨⟨.mv (.slot 0), some 4, none⟩, []⟩,
    ⟨⟨.invoke (.slot 4) [(17, 119, none), (115, 90, none), (119, 90, some (false, 1))] [], some 5, none⟩, []⟩,
    ⟨⟨.mv (.slot 5), some 2, none⟩, []⟩])
  (.seq (.region false [⟨⟨.mv (.slot 2), some 6, none⟩, []⟩,
    ⟨⟨.bin .quo 3 .num (.slot 6) (.const (.int .i64 (.ofNat 2))), some 7, none⟩, []⟩,
    ⟨⟨.bin .sub 3 .num (.slot 7) (.const (.int .i64 (.ofNat 1))), some 8, none⟩, []⟩,
    ⟨⟨.mv (.slot 8), some 3, none⟩, []⟩])
  (.block 0 (.loop (.seq (.seq (.region false [⟨⟨.mv (.slot 3), some 9, none⟩, []⟩,
     ⟨⟨.bin .geq 3 .num (.slot 9) (.const (.int .i64 (.ofNat 0))), some 10, none⟩, []⟩])
   (.cond (.slot 10)
    .skip
    (.exit 0)))
   (.seq (.block 1 (.region false [⟨⟨.mv (.slot 0), some 13, none⟩, []⟩,
     ⟨⟨.mv (.slot 3), some 14, none⟩, []⟩,
     ⟨⟨.mv (.slot 2), some 15, none⟩, []⟩,
     ⟨⟨.call (.const (.func 88 [] [])) [(.slot 13), (.slot 14), (.slot 15)], some 16, none⟩, []⟩]))
   (.region false [⟨⟨.mv (.slot 3), some 11, none⟩, []⟩,
     ⟨⟨.bin .sub 3 .num (.slot 11) (.const (.int .i64 (.ofNat 1))), some 12, none⟩, []⟩,
     ⟨⟨.mv (.slot 12), some 3, none⟩, []⟩]))))))),
  []⟩
theorem xf61_ok : compFunc Tryz.prog Tryz.f61 = some xf61 := by kernel_rfl
/-- (*threshing/unit.state).set -/
def xf62 : XFunc := ⟨(.seq (.region false [⟨⟨.mv (.slot 0), some 6, none⟩, []⟩,
    ⟨⟨.nilCheck (.slot 6), some 7, none⟩, []⟩,
    ⟨⟨.faddr 3 (.slot 7), some 8, none⟩, []⟩,
    ⟨⟨.load false 1 (.slot 8), some 9, none⟩, []⟩,
    ⟨⟨.mv (.slot 1), some 10, none⟩, []⟩,
    ⟨⟨.mapup .i32 (.slot 9) (.slot 10) (.const (.bool true)), none, none⟩, []⟩])
  (.seq (.region false [⟨⟨.mv (.slot 0), some 11, none⟩, []⟩,
    ⟨⟨.nilCheck (.slot 11), some 12, none⟩, []⟩,
    ⟨⟨.faddr 2 (.slot 12), some 13, none⟩, []⟩,
    ⟨⟨.load false 1 (.slot 13), some 14, none⟩, []⟩,
    ⟨⟨.mv (.slot 1), some 15, none⟩, []⟩,
    ⟨⟨.un .neg (.slot 15), some 16, none⟩, []⟩,
    ⟨⟨.lookup .i32 .nils (.slot 14) (.slot 16) false, some 17, none⟩, []⟩,
    ⟨⟨.len .slice (.slot 17), some 18, none⟩, []⟩,
    ⟨⟨.mv (.const (.int .i64 (.ofNat 0))), some 19, none⟩, []⟩])
  (.block 0 (.loop (.seq (.region false [⟨⟨.bin .lss 3 .num (.slot 19) (.slot 18), some 20, none⟩, []⟩])
   (.seq (.cond (.slot 20)
    .skip
    (.exit 0))
   (.seq (.block 1 (.seq (.region false [⟨⟨.iaddr 1 (.slot 17) (.slot 19), some 21, none⟩, []⟩,
     ⟨⟨.load false 1 (.slot 21), some 22, none⟩, []⟩,
     ⟨⟨.mv (.slot 22), some 5, none⟩, []⟩])
   (.seq (.region false [⟨⟨.mv (.slot 0), some 23, none⟩, []⟩,
     ⟨⟨.nilCheck (.slot 23), some 24, none⟩, []⟩,
     ⟨⟨.faddr 1 (.slot 24), some 25, none⟩, []⟩,
     ⟨⟨.load false 1 (.slot 25), some 26, none⟩, []⟩,
     ⟨⟨.mv (.slot 5), some 27, none⟩, []⟩,
     ⟨⟨.lookup .i64 (.int .i64 (.ofNat 0)) (.slot 26) (.slot 27) false, some 28, none⟩, []⟩,
     ⟨⟨.bin .sub 3 .num (.slot 28) (.const (.int .i64 (.ofNat 1))), some 29, none⟩, []⟩,
     ⟨⟨.mapup .i64 (.slot 26) (.slot 27) (.slot 29), none, none⟩, []⟩])
   (.seq (.region false [⟨⟨.mv (.slot 0), some 30, none⟩, []⟩,
     ⟨⟨.nilCheck (.slot 30), some 31, none⟩, []⟩,
     ⟨⟨.faddr 1 (.slot 31), some 32, none⟩, []⟩,
     ⟨⟨.load false 1 (.slot 32), some 33, none⟩, []⟩,
     ⟨⟨.mv (.slot 5), some 34, none⟩, []⟩,
     ⟨⟨.lookup .i64 (.int .i64 (.ofNat 0)) (.slot 33) (.slot 34) false, some 35, none⟩, []⟩,
     ⟨⟨.bin .leq 3 .num (.slot 35) (.const (.int .i64 (.ofNat 1))), some 36, none⟩, []⟩])
   (.cond (.slot 36)
    (.region false [⟨⟨.mv (.slot 0), some 37, none⟩, []⟩,
      ⟨⟨.nilCheck (.slot 37), some 38, none⟩, []⟩,
      ⟨⟨.faddr 4 (.slot 38), some 39, none⟩, []⟩,
      ⟨⟨.mkif 119 (.slot 39), some 40, none⟩, []⟩,
      ⟨⟨.mv (.slot 5), some 41, none⟩, []⟩,
      ⟨⟨.mkif 2 (.slot 41), some 42, none⟩, []⟩,
      ⟨⟨.call (.const (.func 89 [] [])) [(.slot 40), (.slot 42)], some 43, none⟩, []⟩])
    .skip)))))
   (.region false [⟨⟨.bin .add 3 .num (.slot 19) (.const (.int .i64 (.ofNat 1))), some 44, none⟩, []⟩,
     ⟨⟨.mv (.slot 44), some 19, none⟩, []⟩])))))))),
  []⟩
theorem xf62_ok : compFunc Tryz.prog Tryz.f62 = some xf62 := by kernel_rfl
/-- (*threshing/unit.state).next -/
def xf63 : XFunc := ⟨(.seq (.region false [⟨⟨.box (.slot 0), some 1, none⟩, []⟩,
    ⟨⟨.mv (.const (.int .i64 (.ofNat 0))), some 2, none⟩, []⟩,
    ⟨⟨.mv (.const (.int .i32 (.ofNat 0))), some 3, none⟩, []⟩,
    ⟨⟨.mv (.const (.bool false)), some 4, none⟩, []⟩])
  (.seq (.block 0 (.loop (.seq (.seq (.region false [⟨⟨.load false 1 (.slot 1), some 8, none⟩, []⟩,
     ⟨⟨.nilCheck (.slot 8), some 9, none⟩, []⟩,
     ⟨⟨.faddr 4 (.slot 9), some 10, none⟩, []⟩,
     ⟨⟨.load false 1 (.slot 10), some 11, none⟩, []⟩,
     ⟨⟨.call (.const (.func 90 [] [])) [(.slot 11)], some 12, none⟩, []⟩,
     ⟨⟨.bin .gtr 3 .num (.slot 12) (.const (.int .i64 (.ofNat 0))), some 13, none⟩, []⟩])
   (.cond (.slot 13)
    .skip
    (.exit 0)))
   (.block 1 (.seq (.region false [⟨⟨.load false 1 (.slot 1), some 14, none⟩, []⟩,
     ⟨⟨.nilCheck (.slot 14), some 15, none⟩, []⟩,
     ⟨⟨.faddr 4 (.slot 15), some 16, none⟩, []⟩,
     ⟨⟨.mkif 119 (.slot 16), some 17, none⟩, []⟩,
     ⟨⟨.call (.const (.func 91 [] [])) [(.slot 17)], some 18, none⟩, []⟩,
     ⟨⟨.tassert 2 (.int .i64 (.ofNat 0)) false (.slot 18), some 19, none⟩, []⟩,
     ⟨⟨.mv (.slot 19), some 5, none⟩, []⟩])
   (.seq (.region false [⟨⟨.mkfunc 92 [] [(.slot 1)], some 20, none⟩, []⟩,
     ⟨⟨.mv (.slot 20), some 6, none⟩, []⟩])
   (.seq (.seq (.region false [⟨⟨.load false 1 (.slot 1), some 21, none⟩, []⟩,
     ⟨⟨.nilCheck (.slot 21), some 22, none⟩, []⟩,
     ⟨⟨.faddr 0 (.slot 22), some 23, none⟩, []⟩,
     ⟨⟨.load false 1 (.slot 23), some 24, none⟩, []⟩,
     ⟨⟨.mv (.slot 5), some 25, none⟩, []⟩,
     ⟨⟨.lookup .i64 .nils (.slot 24) (.slot 25) false, some 26, none⟩, []⟩,
     ⟨⟨.mv (.slot 6), some 27, none⟩, []⟩,
     ⟨⟨.call (.const (.func 31 [] [])) [(.slot 26), (.slot 27)], some 28, none⟩, []⟩])
   (.cond (.slot 28)
    (.exit 1)
    .skip))
   (.seq (.region false [⟨⟨.load false 1 (.slot 1), some 29, none⟩, []⟩,
     ⟨⟨.nilCheck (.slot 29), some 30, none⟩, []⟩,
     ⟨⟨.faddr 0 (.slot 30), some 31, none⟩, []⟩,
     ⟨⟨.load false 1 (.slot 31), some 32, none⟩, []⟩,
     ⟨⟨.mv (.slot 5), some 33, none⟩, []⟩,
     ⟨⟨.lookup .i64 .nils (.slot 32) (.slot 33) false, some 34, none⟩, []⟩,
     ⟨⟨.mkfunc 93 [] [(.slot 1)], some 35, none⟩, []⟩,
     ⟨⟨.call (.const (.func 51 [] [])) [(.slot 34), (.slot 35)], some 36, none⟩, []⟩,
     ⟨⟨.mv (.slot 36), some 7, none⟩, []⟩])
   (.seq (.seq (.region false [⟨⟨.mv (.slot 7), some 37, none⟩, []⟩,
     ⟨⟨.bin .lss 3 .num (.slot 37) (.const (.int .i64 (.ofNat 0))), some 38, none⟩, []⟩])
   (.cond (.slot 38)
    (.seq (.region false [⟨⟨.mv (.slot 5), some 39, none⟩, []⟩,
      ⟨⟨.mv (.slot 39), some 2, none⟩, []⟩,
      ⟨⟨.mv (.const (.int .i32 (.ofNat 0))), some 3, none⟩, []⟩,
      ⟨⟨.mv (.const (.bool true)), some 4, none⟩, []⟩])
    .ret)
    .skip))
   (.seq (.region true [⟨⟨.mv (.slot 5), some 40, none⟩, []⟩,
     ⟨⟨.load false 1 (.slot 1), some 41, none⟩, []⟩,
     ⟨⟨.nilCheck (.slot 41), some 42, none⟩, []⟩,
     ⟨⟨.faddr 0 (.slot 42), some 43, none⟩, []⟩,
     ⟨⟨.load false 1 (.slot 43), some 44, none⟩, []⟩,
     ⟨⟨.mv (.slot 5), some 45, none⟩, []⟩,
     ⟨⟨.lookup .i64 .nils (.slot 44) (.slot 45) false, some 46, none⟩, []⟩,
     ⟨⟨.mv (.slot 7), some 47, none⟩, []⟩,
     ⟨⟨.iaddr 1 (.slot 46) (.slot 47), some 48, none⟩, []⟩,
     ⟨⟨.load false 1 (.slot 48), some 49, none⟩, []⟩,
     ⟨⟨.mv (.slot 40), some 2, none⟩, []⟩,
     ⟨⟨.mv (.slot 49), some 3, none⟩, []⟩,
     ⟨⟨.mv (.const (.bool true)), some 4, none⟩, []⟩])
   .ret))))))))))
  (.seq (.region false [⟨⟨.mv (.const (.int .i64 (.ofNat 0))), some 2, none⟩, []⟩,
    ⟨⟨.mv (.const (.int .i32 (.ofNat 0))), some 3, none⟩, []⟩,
    ⟨⟨.mv (.const (.bool false)), some 4, none⟩, []⟩])
  .ret))),
  [.tmp 2, .tmp 3, .tmp 4]⟩
theorem xf63_ok : compFunc Tryz.prog Tryz.f63 = some xf63 := by kernel_rfl
/-- slices.Index[threshing/api.Clause,threshing/api.Lit] -/
def xf64 : XFunc := ⟨(.seq (.region false [⟨⟨.mv (.const (.int .i64 (.ofNat 0))), some 4, none⟩, []⟩])
  (.seq (.seq (.region false [⟨⟨.mv (.slot 0), some 6, none⟩, []⟩,
    ⟨⟨.len .slice (.slot 6), some 7, none⟩, []⟩,
    ⟨⟨.mv (.const (.int .i64 (.ofNat 0))), some 8, none⟩, []⟩])
  (.block 0 (.loop (.seq (.region false [⟨⟨.bin .lss 3 .num (.slot 8) (.slot 7), some 9, none⟩, []⟩])
   (.seq (.cond (.slot 9)
    .skip
    (.exit 0))
   (.seq (.block 1 (.seq (.region false [⟨⟨.mv (.slot 8), some 10, none⟩, []⟩,
     ⟨⟨.mv (.slot 10), some 5, none⟩, []⟩])
   (.seq (.region false [⟨⟨.mv (.slot 1), some 11, none⟩, []⟩,
     ⟨⟨.mv (.slot 0), some 12, none⟩, []⟩,
     ⟨⟨.mv (.slot 5), some 13, none⟩, []⟩,
     ⟨⟨.iaddr 1 (.slot 12) (.slot 13), some 14, none⟩, []⟩,
     ⟨⟨.load false 1 (.slot 14), some 15, none⟩, []⟩,
     ⟨⟨.bin .eql 24 .num (.slot 11) (.slot 15), some 16, none⟩, []⟩])
   (.cond (.slot 16)
    (.seq (.region false [⟨⟨.mv (.slot 5), some 17, none⟩, []⟩,
      ⟨⟨.mv (.slot 17), some 4, none⟩, []⟩])
    .ret)
    .skip))))
   (.region false [⟨⟨.bin .add 3 .num (.slot 8) (.const (.int .i64 (.ofNat 1))), some 18, none⟩, []⟩,
     ⟨⟨.mv (.slot 18), some 8, none⟩, []⟩])))))))
  (.seq (.region false [⟨⟨.mv (.const (.int .i64 (.negSucc 0))), some 4, none⟩, []⟩])
  .ret))),
  [.tmp 4]⟩
theorem xf64_ok : compFunc Tryz.prog Tryz.f64 = some xf64 := by kernel_rfl
/-- threshing/base.both$1 -/
def xf65 : XFunc := ⟨(.seq (.region false [⟨⟨.mv (.const (.bool false)), some 3, none⟩, []⟩])
  (.seq (.region false [⟨⟨.mv (.slot 0), some 4, none⟩, []⟩,
    ⟨⟨.bin .gtr 24 .num (.slot 4) (.const (.int .i32 (.ofNat 0))), some 5, none⟩, []⟩,
    ⟨⟨.mv (.slot 5), some 6, none⟩, []⟩,
    ⟨⟨.load false 1 (.slot 1), some 7, some (6, true)⟩, []⟩,
    ⟨⟨.mv (.slot 0), some 8, some (6, true)⟩, []⟩,
    ⟨⟨.un .neg (.slot 8), some 9, some (6, true)⟩, []⟩,
    ⟨⟨.call (.const (.func 45 [] [])) [(.slot 7), (.slot 9)], some 10, some (6, true)⟩, []⟩,
    ⟨⟨.pick (.slot 6) (.slot 10) (.const (.bool false)), some 11, none⟩, []⟩,
    ⟨⟨.mv (.slot 11), some 3, none⟩, []⟩])
  .ret)),
  [.tmp 3]⟩
theorem xf65_ok : compFunc Tryz.prog Tryz.f65 = some xf65 := by kernel_rfl
/-- threshing/cnf.Subsumes$1 -/
def xf66 : XFunc := ⟨(.seq (.region false [⟨⟨.mv (.const (.bool false)), some 3, none⟩, []⟩])
  (.seq (.region false [⟨⟨.load false 1 (.slot 1), some 4, none⟩, []⟩,
    ⟨⟨.mv (.slot 0), some 5, none⟩, []⟩,
    ⟨⟨.call (.const (.func 45 [] [])) [(.slot 4), (.slot 5)], some 6, none⟩, []⟩,
    ⟨⟨.un .not (.slot 6), some 7, none⟩, []⟩,
    ⟨⟨.mv (.slot 7), some 3, none⟩, []⟩])
  .ret)),
  [.tmp 3]⟩
theorem xf66_ok : compFunc Tryz.prog Tryz.f66 = some xf66 := by kernel_rfl
/-- slices.insertionSortOrdered[int64] -/
def xf67 : XFunc := ⟨(.seq (.region false [⟨⟨.mv (.slot 1), some 8, none⟩, []⟩,
    ⟨⟨.bin .add 3 .num (.slot 8) (.const (.int .i64 (.ofNat 1))), some 9, none⟩, []⟩,
    ⟨⟨.mv (.slot 9), some 6, none⟩, []⟩])
  (.block 0 (.loop (.seq (.seq (.region false [⟨⟨.mv (.slot 6), some 10, none⟩, []⟩,
     ⟨⟨.mv (.slot 2), some 11, none⟩, []⟩,
     ⟨⟨.bin .lss 3 .num (.slot 10) (.slot 11), some 12, none⟩, []⟩])
   (.cond (.slot 12)
    .skip
    (.exit 0)))
   (.seq (.block 1 (.seq (.region false [⟨⟨.mv (.slot 6), some 15, none⟩, []⟩,
     ⟨⟨.mv (.slot 15), some 7, none⟩, []⟩])
   (.block 2 (.loop (.seq (.seq (.region true [⟨⟨.mv (.slot 7), some 16, none⟩, []⟩,
      ⟨⟨.mv (.slot 1), some 17, none⟩, []⟩,
      ⟨⟨.bin .gtr 3 .num (.slot 16) (.slot 17), some 18, none⟩, []⟩,
      ⟨⟨.mv (.slot 18), some 19, none⟩, []⟩,
      ⟨⟨.mv (.slot 0), some 20, some (19, true)⟩, []⟩,
      ⟨⟨.mv (.slot 7), some 21, some (19, true)⟩, []⟩,
      ⟨⟨.iaddr 1 (.slot 20) (.slot 21), some 22, some (19, true)⟩, []⟩,
      ⟨⟨.load false 1 (.slot 22), some 23, some (19, true)⟩, []⟩,
      ⟨⟨.mv (.slot 0), some 24, some (19, true)⟩, []⟩,
      ⟨⟨.mv (.slot 7), some 25, some (19, true)⟩, []⟩,
      ⟨⟨.bin .sub 3 .num (.slot 25) (.const (.int .i64 (.ofNat 1))), some 26, some (19, true)⟩, []⟩,
      ⟨⟨.iaddr 1 (.slot 24) (.slot 26), some 27, some (19, true)⟩, []⟩,
      ⟨⟨.load false 1 (.slot 27), some 28, some (19, true)⟩, []⟩,
      ⟨⟨.call (.const (.func 73 [] [])) [(.slot 23), (.slot 28)], some 29, some (19, true)⟩, []⟩,
      ⟨⟨.pick (.slot 19) (.slot 29) (.const (.bool false)), some 30, none⟩, []⟩])
    (.cond (.slot 30)
     .skip
     (.exit 2)))
    (.seq (.block 3 (.region true [⟨⟨.mv (.slot 0), some 33, none⟩, []⟩,
      ⟨⟨.mv (.slot 7), some 34, none⟩, []⟩,
      ⟨⟨.mv (.slot 0), some 35, none⟩, []⟩,
      ⟨⟨.mv (.slot 7), some 36, none⟩, []⟩,
      ⟨⟨.bin .sub 3 .num (.slot 36) (.const (.int .i64 (.ofNat 1))), some 37, none⟩, []⟩,
      ⟨⟨.mv (.slot 0), some 38, none⟩, []⟩,
      ⟨⟨.mv (.slot 7), some 39, none⟩, []⟩,
      ⟨⟨.bin .sub 3 .num (.slot 39) (.const (.int .i64 (.ofNat 1))), some 40, none⟩, []⟩,
      ⟨⟨.iaddr 1 (.slot 38) (.slot 40), some 41, none⟩, []⟩,
      ⟨⟨.load false 1 (.slot 41), some 42, none⟩, []⟩,
      ⟨⟨.mv (.slot 0), some 43, none⟩, []⟩,
      ⟨⟨.mv (.slot 7), some 44, none⟩, []⟩,
      ⟨⟨.iaddr 1 (.slot 43) (.slot 44), some 45, none⟩, []⟩,
      ⟨⟨.load false 1 (.slot 45), some 46, none⟩, []⟩,
      ⟨⟨.iaddr 1 (.slot 33) (.slot 34), some 47, none⟩, []⟩,
      ⟨⟨.store 1 (.slot 47) (.slot 42), none, none⟩, []⟩,
      ⟨⟨.iaddr 1 (.slot 35) (.slot 37), some 48, none⟩, []⟩,
      ⟨⟨.store 1 (.slot 48) (.slot 46), none, none⟩, []⟩]))
    (.region false [⟨⟨.mv (.slot 7), some 31, none⟩, []⟩,
      ⟨⟨.bin .sub 3 .num (.slot 31) (.const (.int .i64 (.ofNat 1))), some 32, none⟩, []⟩,
      ⟨⟨.mv (.slot 32), some 7, none⟩, []⟩])))))))
   (.region false [⟨⟨.mv (.slot 6), some 13, none⟩, []⟩,
     ⟨⟨.bin .add 3 .num (.slot 13) (.const (.int .i64 (.ofNat 1))), some 14, none⟩, []⟩,
     ⟨⟨.mv (.slot 14), some 6, none⟩, []⟩])))))),
  []⟩
theorem xf67_ok : compFunc Tryz.prog Tryz.f67 = some xf67 := by kernel_rfl
/-- slices.heapSortOrdered[int64] -/
def xf68 : XFunc := ⟨(.seq (.region false [⟨⟨.mv (.slot 1), some 11, none⟩, []⟩,
    ⟨⟨.mv (.slot 11), some 6, none⟩, []⟩])
  (.seq (.region false [⟨⟨.mv (.const (.int .i64 (.ofNat 0))), some 7, none⟩, []⟩])
  (.seq (.region false [⟨⟨.mv (.slot 2), some 12, none⟩, []⟩,
    ⟨⟨.mv (.slot 1), some 13, none⟩, []⟩,
    ⟨⟨.bin .sub 3 .num (.slot 12) (.slot 13), some 14, none⟩, []⟩,
    ⟨⟨.mv (.slot 14), some 8, none⟩, []⟩])
  (.seq (.seq (.region false [⟨⟨.mv (.slot 8), some 15, none⟩, []⟩,
    ⟨⟨.bin .sub 3 .num (.slot 15) (.const (.int .i64 (.ofNat 1))), some 16, none⟩, []⟩,
    ⟨⟨.bin .quo 3 .num (.slot 16) (.const (.int .i64 (.ofNat 2))), some 17, none⟩, []⟩,
    ⟨⟨.mv (.slot 17), some 9, none⟩, []⟩])
  (.block 0 (.loop (.seq (.seq (.region false [⟨⟨.mv (.slot 9), some 18, none⟩, []⟩,
     ⟨⟨.bin .geq 3 .num (.slot 18) (.const (.int .i64 (.ofNat 0))), some 19, none⟩, []⟩])
   (.cond (.slot 19)
    .skip
    (.exit 0)))
   (.seq (.block 1 (.region false [⟨⟨.mv (.slot 0), some 22, none⟩, []⟩,
     ⟨⟨.mv (.slot 9), some 23, none⟩, []⟩,
     ⟨⟨.mv (.slot 8), some 24, none⟩, []⟩,
     ⟨⟨.mv (.slot 6), some 25, none⟩, []⟩,
     ⟨⟨.call (.const (.func 94 [] [])) [(.slot 22), (.slot 23), (.slot 24), (.slot 25)], some 26, none⟩, []⟩]))
   (.region false [⟨⟨.mv (.slot 9), some 20, none⟩, []⟩,
     ⟨⟨.bin .sub 3 .num (.slot 20) (.const (.int .i64 (.ofNat 1))), some 21, none⟩, []⟩,
     ⟨⟨.mv (.slot 21), some 9, none⟩, []⟩]))))))
  (.seq (.region false [⟨⟨.mv (.slot 8), some 27, none⟩, []⟩,
    ⟨⟨.bin .sub 3 .num (.slot 27) (.const (.int .i64 (.ofNat 1))), some 28, none⟩, []⟩,
    ⟨⟨.mv (.slot 28), some 10, none⟩, []⟩])
  (.block 2 (.loop (.seq (.seq (.region false [⟨⟨.mv (.slot 10), some 29, none⟩, []⟩,
     ⟨⟨.bin .geq 3 .num (.slot 29) (.const (.int .i64 (.ofNat 0))), some 30, none⟩, []⟩])
   (.cond (.slot 30)
    .skip
    (.exit 2)))
   (.seq (.block 3 (.seq (.region true [⟨⟨.mv (.slot 0), some 33, none⟩, []⟩,
     ⟨⟨.mv (.slot 6), some 34, none⟩, []⟩,
     ⟨⟨.mv (.slot 0), some 35, none⟩, []⟩,
     ⟨⟨.mv (.slot 6), some 36, none⟩, []⟩,
     ⟨⟨.mv (.slot 10), some 37, none⟩, []⟩,
     ⟨⟨.bin .add 3 .num (.slot 36) (.slot 37), some 38, none⟩, []⟩,
     ⟨⟨.mv (.slot 0), some 39, none⟩, []⟩,
     ⟨⟨.mv (.slot 6), some 40, none⟩, []⟩,
     ⟨⟨.mv (.slot 10), some 41, none⟩, []⟩,
     ⟨⟨.bin .add 3 .num (.slot 40) (.slot 41), some 42, none⟩, []⟩,
     ⟨⟨.iaddr 1 (.slot 39) (.slot 42), some 43, none⟩, []⟩,
     ⟨⟨.load false 1 (.slot 43), some 44, none⟩, []⟩,
     ⟨⟨.mv (.slot 0), some 45, none⟩, []⟩,
     ⟨⟨.mv (.slot 6), some 46, none⟩, []⟩,
     ⟨⟨.iaddr 1 (.slot 45) (.slot 46), some 47, none⟩, []⟩,
     ⟨⟨.load false 1 (.slot 47), some 48, none⟩, []⟩,
     ⟨⟨.iaddr 1 (.slot 33) (.slot 34), some 49, none⟩, []⟩,
     ⟨⟨.store 1 (.slot 49) (.slot 44), none, none⟩, []⟩,
     ⟨⟨.iaddr 1 (.slot 35) (.slot 38), some 50, none⟩, []⟩,
     ⟨⟨.store 1 (.slot 50) (.slot 48), none, none⟩, []⟩])
   (.region false [⟨⟨.mv (.slot 0), some 51, none⟩, []⟩,
     ⟨⟨.mv (.slot 7), some 52, none⟩, []⟩,
     ⟨⟨.mv (.slot 10), some 53, none⟩, []⟩,
     ⟨⟨.mv (.slot 6), some 54, none⟩, []⟩,
     ⟨⟨.call (.const (.func 94 [] [])) [(.slot 51), (.slot 52), (.slot 53), (.slot 54)], some 55, none⟩, []⟩])))
   (.region false [⟨⟨.mv (.slot 10), some 31, none⟩, []⟩,
     ⟨⟨.bin .sub 3 .num (.slot 31) (.const (.int .i64 (.ofNat 1))), some 32, none⟩, []⟩,
     ⟨⟨.mv (.slot 32), some 10, none⟩, []⟩])))))))))),
  []⟩
theorem xf68_ok : compFunc Tryz.prog Tryz.f68 = some xf68 := by kernel_rfl
/-- slices.breakPatternsOrdered[int64] -/
def xf69 : XFunc := ⟨(.seq (.region false [⟨⟨.mv (.slot 2), some 11, none⟩, []⟩,
    ⟨⟨.mv (.slot 1), some 12, none⟩, []⟩,
    ⟨⟨.bin .sub 3 .num (.slot 11) (.slot 12), some 13, none⟩, []⟩,
    ⟨⟨.mv (.slot 13), some 6, none⟩, []⟩])
  (.seq (.region false [⟨⟨.mv (.slot 6), some 14, none⟩, []⟩,
    ⟨⟨.bin .geq 3 .num (.slot 14) (.const (.int .i64 (.ofNat 8))), some 15, none⟩, []⟩])
  (.cond (.slot 15)
   (.seq (.region false [⟨⟨.mv (.slot 6), some 16, none⟩, []⟩,
     ⟨⟨.conv .u64 (.slot 16), some 17, none⟩, []⟩,
     ⟨⟨.alloc [(.int .u64 (.ofNat 0))], some 7, none⟩, []⟩,
     ⟨⟨.store 1 (.slot 7) (.slot 17), none, none⟩, []⟩])
   (.seq (.region false [⟨⟨.mv (.slot 6), some 18, none⟩, []⟩,
     ⟨⟨.call (.const (.func 95 [] [])) [(.slot 18)], some 19, none⟩, []⟩,
     ⟨⟨.mv (.slot 19), some 8, none⟩, []⟩])
   (.seq (.region false [⟨⟨.mv (.slot 1), some 20, none⟩, []⟩,
     ⟨⟨.mv (.slot 6), some 21, none⟩, []⟩,
     ⟨⟨.bin .quo 3 .num (.slot 21) (.const (.int .i64 (.ofNat 4))), some 22, none⟩, []⟩,
     ⟨⟨.bin .mul 3 .num (.slot 22) (.const (.int .i64 (.ofNat 2))), some 23, none⟩, []⟩,
     ⟨⟨.bin .add 3 .num (.slot 20) (.slot 23), some 24, none⟩, []⟩,
     ⟨⟨.bin .sub 3 .num (.slot 24) (.const (.int .i64 (.ofNat 1))), some 25, none⟩, []⟩,
     ⟨⟨.mv (.slot 25), some 9, none⟩, []⟩])
   (.block 0 (.loop (.seq (.seq (.region false [⟨⟨.mv (.slot 9), some 26, none⟩, []⟩,
      ⟨⟨.mv (.slot 1), some 27, none⟩, []⟩,
      ⟨⟨.mv (.slot 6), some 28, none⟩, []⟩,
      ⟨⟨.bin .quo 3 .num (.slot 28) (.const (.int .i64 (.ofNat 4))), some 29, none⟩, []⟩,
      ⟨⟨.bin .mul 3 .num (.slot 29) (.const (.int .i64 (.ofNat 2))), some 30, none⟩, []⟩,
      ⟨⟨.bin .add 3 .num (.slot 27) (.slot 30), some 31, none⟩, []⟩,
      ⟨⟨.bin .add 3 .num (.slot 31) (.const (.int .i64 (.ofNat 1))), some 32, none⟩, []⟩,
      ⟨⟨.bin .leq 3 .num (.slot 26) (.slot 32), some 33, none⟩, []⟩])
    (.cond (.slot 33)
     .skip
     (.exit 0)))
    (.seq (.block 1 (.seq (.region false [⟨⟨.call (.const (.func 96 [] [])) [(.slot 7)], some 36, none⟩, []⟩,
      ⟨⟨.mv (.slot 8), some 37, none⟩, []⟩,
      ⟨⟨.bin .sub 107 .num (.slot 37) (.const (.int .u64 (.ofNat 1))), some 38, none⟩, []⟩,
      ⟨⟨.bin .and 107 .num (.slot 36) (.slot 38), some 39, none⟩, []⟩,
      ⟨⟨.conv .i64 (.slot 39), some 40, none⟩, []⟩,
      ⟨⟨.mv (.slot 40), some 10, none⟩, []⟩])
    (.seq (.seq (.region false [⟨⟨.mv (.slot 10), some 41, none⟩, []⟩,
      ⟨⟨.mv (.slot 6), some 42, none⟩, []⟩,
      ⟨⟨.bin .geq 3 .num (.slot 41) (.slot 42), some 43, none⟩, []⟩])
    (.cond (.slot 43)
     (.region false [⟨⟨.mv (.slot 10), some 44, none⟩, []⟩,
       ⟨⟨.mv (.slot 6), some 45, none⟩, []⟩,
       ⟨⟨.bin .sub 3 .num (.slot 44) (.slot 45), some 46, none⟩, []⟩,
       ⟨⟨.mv (.slot 46), some 10, none⟩, []⟩])
     .skip))
    (.region true [⟨⟨.mv (.slot 0), some 47, none⟩, []⟩,
      ⟨⟨.mv (.slot 9), some 48, none⟩, []⟩,
      ⟨⟨.mv (.slot 0), some 49, none⟩, []⟩,
      ⟨⟨.mv (.slot 1), some 50, none⟩, []⟩,
      ⟨⟨.mv (.slot 10), some 51, none⟩, []⟩,
      ⟨⟨.bin .add 3 .num (.slot 50) (.slot 51), some 52, none⟩, []⟩,
      ⟨⟨.mv (.slot 0), some 53, none⟩, []⟩,
      ⟨⟨.mv (.slot 1), some 54, none⟩, []⟩,
      ⟨⟨.mv (.slot 10), some 55, none⟩, []⟩,
      ⟨⟨.bin .add 3 .num (.slot 54) (.slot 55), some 56, none⟩, []⟩,
      ⟨⟨.iaddr 1 (.slot 53) (.slot 56), some 57, none⟩, []⟩,
      ⟨⟨.load false 1 (.slot 57), some 58, none⟩, []⟩,
      ⟨⟨.mv (.slot 0), some 59, none⟩, []⟩,
      ⟨⟨.mv (.slot 9), some 60, none⟩, []⟩,
      ⟨⟨.iaddr 1 (.slot 59) (.slot 60), some 61, none⟩, []⟩,
      ⟨⟨.load false 1 (.slot 61), some 62, none⟩, []⟩,
      ⟨⟨.iaddr 1 (.slot 47) (.slot 48), some 63, none⟩, []⟩,
      ⟨⟨.store 1 (.slot 63) (.slot 58), none, none⟩, []⟩,
      ⟨⟨.iaddr 1 (.slot 49) (.slot 52), some 64, none⟩, []⟩,
      ⟨⟨.store 1 (.slot 64) (.slot 62), none, none⟩, []⟩]))))
    (.region false [⟨⟨.mv (.slot 9), some 34, none⟩, []⟩,
      ⟨⟨.bin .add 3 .num (.slot 34) (.const (.int .i64 (.ofNat 1))), some 35, none⟩, []⟩,
      ⟨⟨.mv (.slot 35), some 9, none⟩, []⟩]))))))))
   .skip))),
  []⟩
theorem xf69_ok : compFunc Tryz.prog Tryz.f69 = some xf69 := by kernel_rfl
/-- slices.choosePivotOrdered[int64] -/
def xf70 : XFunc := ⟨(.seq (.region false [⟨⟨.mv (.const (.int .i64 (.ofNat 0))), some 6, none⟩, []⟩,
    ⟨⟨.mv (.const (.int .i64 (.ofNat 0))), some 7, none⟩, []⟩])
  (.seq (.region false [⟨⟨.mv (.slot 2), some 13, none⟩, []⟩,
    ⟨⟨.mv (.slot 1), some 14, none⟩, []⟩,
    ⟨⟨.bin .sub 3 .num (.slot 13) (.slot 14), some 15, none⟩, []⟩,
    ⟨⟨.mv (.slot 15), some 8, none⟩, []⟩])
  (.seq (.region false [⟨⟨.alloc [(.int .i64 (.ofNat 0))], some 9, none⟩, []⟩])
  (.seq (.region false [⟨⟨.mv (.slot 1), some 16, none⟩, []⟩,
    ⟨⟨.mv (.slot 8), some 17, none⟩, []⟩,
    ⟨⟨.bin .quo 3 .num (.slot 17) (.const (.int .i64 (.ofNat 4))), some 18, none⟩, []⟩,
    ⟨⟨.bin .mul 3 .num (.slot 18) (.const (.int .i64 (.ofNat 1))), some 19, none⟩, []⟩,
    ⟨⟨.bin .add 3 .num (.slot 16) (.slot 19), some 20, none⟩, []⟩,
    ⟨⟨.mv (.slot 20), some 10, none⟩, []⟩])
  (.seq (.region false [⟨⟨.mv (.slot 1), some 21, none⟩, []⟩,
    ⟨⟨.mv (.slot 8), some 22, none⟩, []⟩,
    ⟨⟨.bin .quo 3 .num (.slot 22) (.const (.int .i64 (.ofNat 4))), some 23, none⟩, []⟩,
    ⟨⟨.bin .mul 3 .num (.slot 23) (.const (.int .i64 (.ofNat 2))), some 24, none⟩, []⟩,
    ⟨⟨.bin .add 3 .num (.slot 21) (.slot 24), some 25, none⟩, []⟩,
    ⟨⟨.mv (.slot 25), some 11, none⟩, []⟩])
  (.seq (.region false [⟨⟨.mv (.slot 1), some 26, none⟩, []⟩,
    ⟨⟨.mv (.slot 8), some 27, none⟩, []⟩,
    ⟨⟨.bin .quo 3 .num (.slot 27) (.const (.int .i64 (.ofNat 4))), some 28, none⟩, []⟩,
    ⟨⟨.bin .mul 3 .num (.slot 28) (.const (.int .i64 (.ofNat 3))), some 29, none⟩, []⟩,
    ⟨⟨.bin .add 3 .num (.slot 26) (.slot 29), some 30, none⟩, []⟩,
    ⟨⟨.mv (.slot 30), some 12, none⟩, []⟩])
  (.seq (.seq (.region false [⟨⟨.mv (.slot 8), some 31, none⟩, []⟩,
    ⟨⟨.bin .geq 3 .num (.slot 31) (.const (.int .i64 (.ofNat 8))), some 32, none⟩, []⟩])
  (.cond (.slot 32)
   (.seq (.seq (.region false [⟨⟨.mv (.slot 8), some 33, none⟩, []⟩,
     ⟨⟨.bin .geq 3 .num (.slot 33) (.const (.int .i64 (.ofNat 50))), some 34, none⟩, []⟩])
   (.cond (.slot 34)
    (.seq (.region false [⟨⟨.mv (.slot 0), some 35, none⟩, []⟩,
      ⟨⟨.mv (.slot 10), some 36, none⟩, []⟩,
      ⟨⟨.call (.const (.func 97 [] [])) [(.slot 35), (.slot 36), (.slot 9)], some 37, none⟩, []⟩,
      ⟨⟨.mv (.slot 37), some 10, none⟩, []⟩])
    (.seq (.region false [⟨⟨.mv (.slot 0), some 38, none⟩, []⟩,
      ⟨⟨.mv (.slot 11), some 39, none⟩, []⟩,
      ⟨⟨.call (.const (.func 97 [] [])) [(.slot 38), (.slot 39), (.slot 9)], some 40, none⟩, []⟩,
      ⟨⟨.mv (.slot 40), some 11, none⟩, []⟩])
    (.region false [⟨⟨.mv (.slot 0), some 41, none⟩, []⟩,
      ⟨⟨.mv (.slot 12), some 42, none⟩, []⟩,
      ⟨⟨.call (.const (.func 97 [] [])) [(.slot 41), (.slot 42), (.slot 9)], some 43, none⟩, []⟩,
      ⟨⟨.mv (.slot 43), some 12, none⟩, []⟩])))
    .skip))
   (.region false [⟨⟨.mv (.slot 0), some 44, none⟩, []⟩,
     ⟨⟨.mv (.slot 10), some 45, none⟩, []⟩,
     ⟨⟨.mv (.slot 11), some 46, none⟩, []⟩,
     ⟨⟨.mv (.slot 12), some 47, none⟩, []⟩,
     ⟨⟨.call (.const (.func 98 [] [])) [(.slot 44), (.slot 45), (.slot 46), (.slot 47), (.slot 9)], some 48, none⟩, []⟩,
     ⟨⟨.mv (.slot 48), some 11, none⟩, []⟩]))
   .skip))
  (.seq (.region false [⟨⟨.load false 1 (.slot 9), some 49, none⟩, []⟩])
  (.block 0 (.seq (.region false [⟨⟨.bin .eql 3 .num (.slot 49) (.const (.int .i64 (.ofNat 0))), some 52, none⟩, []⟩,
    ⟨⟨.mv (.slot 52), some 51, none⟩, []⟩])
  (.cond (.slot 51)
   (.seq (.region false [⟨⟨.mv (.slot 11), some 53, none⟩, []⟩,
     ⟨⟨.mv (.slot 53), some 6, none⟩, []⟩,
     ⟨⟨.mv (.const (.int .i64 (.ofNat 1))), some 7, none⟩, []⟩])
   .ret)
   (.seq (.region false [⟨⟨.bin .eql 3 .num (.slot 49) (.const (.int .i64 (.ofNat 12))), some 55, none⟩, []⟩,
     ⟨⟨.mv (.slot 55), some 54, none⟩, []⟩])
   (.cond (.slot 54)
    (.seq (.region false [⟨⟨.mv (.slot 11), some 56, none⟩, []⟩,
      ⟨⟨.mv (.slot 56), some 6, none⟩, []⟩,
      ⟨⟨.mv (.const (.int .i64 (.ofNat 2))), some 7, none⟩, []⟩])
    .ret)
    (.seq (.region false [⟨⟨.mv (.slot 11), some 50, none⟩, []⟩,
      ⟨⟨.mv (.slot 50), some 6, none⟩, []⟩,
      ⟨⟨.mv (.const (.int .i64 (.ofNat 0))), some 7, none⟩, []⟩])
    .ret)))))))))))))),
  [.tmp 6, .tmp 7]⟩
theorem xf70_ok : compFunc Tryz.prog Tryz.f70 = some xf70 := by kernel_rfl
/-- slices.reverseRangeOrdered[int64] -/
def xf71 : XFunc := ⟨(.seq (.region false [⟨⟨.mv (.slot 1), some 8, none⟩, []⟩,
    ⟨⟨.mv (.slot 8), some 6, none⟩, []⟩])
  (.seq (.region false [⟨⟨.mv (.slot 2), some 9, none⟩, []⟩,
    ⟨⟨.bin .sub 3 .num (.slot 9) (.const (.int .i64 (.ofNat 1))), some 10, none⟩, []⟩,
    ⟨⟨.mv (.slot 10), some 7, none⟩, []⟩])
  (.block 0 (.loop (.seq (.seq (.region false [⟨⟨.mv (.slot 6), some 11, none⟩, []⟩,
     ⟨⟨.mv (.slot 7), some 12, none⟩, []⟩,
     ⟨⟨.bin .lss 3 .num (.slot 11) (.slot 12), some 13, none⟩, []⟩])
   (.cond (.slot 13)
    .skip
    (.exit 0)))
   (.block 1 (.seq (.region true [⟨⟨.mv (.slot 0), some 14, none⟩, []⟩,
     ⟨⟨.mv (.slot 6), some 15, none⟩, []⟩,
     ⟨⟨.mv (.slot 0), some 16, none⟩, []⟩,
     ⟨⟨.mv (.slot 7), some 17, none⟩, []⟩,
     ⟨⟨.mv (.slot 0), some 18, none⟩, []⟩,
     ⟨⟨.mv (.slot 7), some 19, none⟩, []⟩,
     ⟨⟨.iaddr 1 (.slot 18) (.slot 19), some 20, none⟩, []⟩,
     ⟨⟨.load false 1 (.slot 20), some 21, none⟩, []⟩,
     ⟨⟨.mv (.slot 0), some 22, none⟩, []⟩,
     ⟨⟨.mv (.slot 6), some 23, none⟩, []⟩,
     ⟨⟨.iaddr 1 (.slot 22) (.slot 23), some 24, none⟩, []⟩,
     ⟨⟨.load false 1 (.slot 24), some 25, none⟩, []⟩,
     ⟨⟨.iaddr 1 (.slot 14) (.slot 15), some 26, none⟩, []⟩,
     ⟨⟨.store 1 (.slot 26) (.slot 21), none, none⟩, []⟩,
     ⟨⟨.iaddr 1 (.slot 16) (.slot 17), some 27, none⟩, []⟩,
     ⟨⟨.store 1 (.slot 27) (.slot 25), none, none⟩, []⟩])
   (.seq (.region false [⟨⟨.mv (.slot 6), some 28, none⟩, []⟩,
     ⟨⟨.bin .add 3 .num (.slot 28) (.const (.int .i64 (.ofNat 1))), some 29, none⟩, []⟩,
     ⟨⟨.mv (.slot 29), some 6, none⟩, []⟩])
   (.region false [⟨⟨.mv (.slot 7), some 30, none⟩, []⟩,
     ⟨⟨.bin .sub 3 .num (.slot 30) (.const (.int .i64 (.ofNat 1))), some 31, none⟩, []⟩,
     ⟨⟨.mv (.slot 31), some 7, none⟩, []⟩]))))))))),
  []⟩
theorem xf71_ok : compFunc Tryz.prog Tryz.f71 = some xf71 := by kernel_rfl
/-- slices.partialInsertionSortOrdered[int64] -/
def xf72 : XFunc := ⟨(.seq (.region false [⟨⟨.mv (.const (.bool false)), some 6, none⟩, []⟩])
  (.seq (.region false [⟨⟨.mv (.slot 1), some 11, none⟩, []⟩,
    ⟨⟨.bin .add 3 .num (.slot 11) (.const (.int .i64 (.ofNat 1))), some 12, none⟩, []⟩,
    ⟨⟨.mv (.slot 12), some 7, none⟩, []⟩])
  (.seq (.seq (.region false [⟨⟨.mv (.const (.int .i64 (.ofNat 0))), some 8, none⟩, []⟩])
  (.block 0 (.loop (.seq (.seq (.region false [⟨⟨.mv (.slot 8), some 13, none⟩, []⟩,
     ⟨⟨.bin .lss 3 .num (.slot 13) (.const (.int .i64 (.ofNat 5))), some 14, none⟩, []⟩])
   (.cond (.slot 14)
    .skip
    (.exit 0)))
   (.seq (.block 1 (.seq (.block 2 (.loop (.seq (.seq (.region true [⟨⟨.mv (.slot 7), some 17, none⟩, []⟩,
      ⟨⟨.mv (.slot 2), some 18, none⟩, []⟩,
      ⟨⟨.bin .lss 3 .num (.slot 17) (.slot 18), some 19, none⟩, []⟩,
      ⟨⟨.mv (.slot 19), some 20, none⟩, []⟩,
      ⟨⟨.mv (.slot 0), some 21, some (20, true)⟩, []⟩,
      ⟨⟨.mv (.slot 7), some 22, some (20, true)⟩, []⟩,
      ⟨⟨.iaddr 1 (.slot 21) (.slot 22), some 23, some (20, true)⟩, []⟩,
      ⟨⟨.load false 1 (.slot 23), some 24, some (20, true)⟩, []⟩,
      ⟨⟨.mv (.slot 0), some 25, some (20, true)⟩, []⟩,
      ⟨⟨.mv (.slot 7), some 26, some (20, true)⟩, []⟩,
      ⟨⟨.bin .sub 3 .num (.slot 26) (.const (.int .i64 (.ofNat 1))), some 27, some (20, true)⟩, []⟩,
      ⟨⟨.iaddr 1 (.slot 25) (.slot 27), some 28, some (20, true)⟩, []⟩,
      ⟨⟨.load false 1 (.slot 28), some 29, some (20, true)⟩, []⟩,
      ⟨⟨.call (.const (.func 73 [] [])) [(.slot 24), (.slot 29)], some 30, some (20, true)⟩, []⟩,
      ⟨⟨.un .not (.slot 30), some 31, some (20, true)⟩, []⟩,
      ⟨⟨.pick (.slot 20) (.slot 31) (.const (.bool false)), some 32, none⟩, []⟩])
    (.cond (.slot 32)
     .skip
     (.exit 2)))
    (.block 3 (.region false [⟨⟨.mv (.slot 7), some 33, none⟩, []⟩,
      ⟨⟨.bin .add 3 .num (.slot 33) (.const (.int .i64 (.ofNat 1))), some 34, none⟩, []⟩,
      ⟨⟨.mv (.slot 34), some 7, none⟩, []⟩])))))
   (.seq (.seq (.region false [⟨⟨.mv (.slot 7), some 35, none⟩, []⟩,
     ⟨⟨.mv (.slot 2), some 36, none⟩, []⟩,
     ⟨⟨.bin .eql 3 .num (.slot 35) (.slot 36), some 37, none⟩, []⟩])
   (.cond (.slot 37)
    (.seq (.region false [⟨⟨.mv (.const (.bool true)), some 6, none⟩, []⟩])
    .ret)
    .skip))
   (.seq (.seq (.region false [⟨⟨.mv (.slot 2), some 38, none⟩, []⟩,
     ⟨⟨.mv (.slot 1), some 39, none⟩, []⟩,
     ⟨⟨.bin .sub 3 .num (.slot 38) (.slot 39), some 40, none⟩, []⟩,
     ⟨⟨.bin .lss 3 .num (.slot 40) (.const (.int .i64 (.ofNat 50))), some 41, none⟩, []⟩])
   (.cond (.slot 41)
    (.seq (.region false [⟨⟨.mv (.const (.bool false)), some 6, none⟩, []⟩])
    .ret)
    .skip))
   (.seq (.region true [⟨⟨.mv (.slot 0), some 42, none⟩, []⟩,
     ⟨⟨.mv (.slot 7), some 43, none⟩, []⟩,
     ⟨⟨.mv (.slot 0), some 44, none⟩, []⟩,
     ⟨⟨.mv (.slot 7), some 45, none⟩, []⟩,
     ⟨⟨.bin .sub 3 .num (.slot 45) (.const (.int .i64 (.ofNat 1))), some 46, none⟩, []⟩,
     ⟨⟨.mv (.slot 0), some 47, none⟩, []⟩,
     ⟨⟨.mv (.slot 7), some 48, none⟩, []⟩,
     ⟨⟨.bin .sub 3 .num (.slot 48) (.const (.int .i64 (.ofNat 1))), some 49, none⟩, []⟩,
     ⟨⟨.iaddr 1 (.slot 47) (.slot 49), some 50, none⟩, []⟩,
     ⟨⟨.load false 1 (.slot 50), some 51, none⟩, []⟩,
     ⟨⟨.mv (.slot 0), some 52, none⟩, []⟩,
     ⟨⟨.mv (.slot 7), some 53, none⟩, []⟩,
     ⟨⟨.iaddr 1 (.slot 52) (.slot 53), some 54, none⟩, []⟩,
     ⟨⟨.load false 1 (.slot 54), some 55, none⟩, []⟩,
     ⟨⟨.iaddr 1 (.slot 42) (.slot 43), some 56, none⟩, []⟩,
     ⟨⟨.store 1 (.slot 56) (.slot 51), none, none⟩, []⟩,
     ⟨⟨.iaddr 1 (.slot 44) (.slot 46), some 57, none⟩, []⟩,
     ⟨⟨.store 1 (.slot 57) (.slot 55), none, none⟩, []⟩])
   (.seq (.seq (.region false [⟨⟨.mv (.slot 7), some 58, none⟩, []⟩,
     ⟨⟨.mv (.slot 1), some 59, none⟩, []⟩,
     ⟨⟨.bin .sub 3 .num (.slot 58) (.slot 59), some 60, none⟩, []⟩,
     ⟨⟨.bin .geq 3 .num (.slot 60) (.const (.int .i64 (.ofNat 2))), some 61, none⟩, []⟩])
   (.cond (.slot 61)
    (.seq (.region false [⟨⟨.mv (.slot 7), some 62, none⟩, []⟩,
      ⟨⟨.bin .sub 3 .num (.slot 62) (.const (.int .i64 (.ofNat 1))), some 63, none⟩, []⟩,
      ⟨⟨.mv (.slot 63), some 9, none⟩, []⟩])
    (.block 4 (.loop (.seq (.seq (.region false [⟨⟨.mv (.slot 9), some 64, none⟩, []⟩,
       ⟨⟨.bin .geq 3 .num (.slot 64) (.const (.int .i64 (.ofNat 1))), some 65, none⟩, []⟩])
     (.cond (.slot 65)
      .skip
      (.exit 4)))
     (.seq (.block 5 (.seq (.seq (.region true [⟨⟨.mv (.slot 0), some 68, none⟩, []⟩,
       ⟨⟨.mv (.slot 9), some 69, none⟩, []⟩,
       ⟨⟨.iaddr 1 (.slot 68) (.slot 69), some 70, none⟩, []⟩,
       ⟨⟨.load false 1 (.slot 70), some 71, none⟩, []⟩,
       ⟨⟨.mv (.slot 0), some 72, none⟩, []⟩,
       ⟨⟨.mv (.slot 9), some 73, none⟩, []⟩,
       ⟨⟨.bin .sub 3 .num (.slot 73) (.const (.int .i64 (.ofNat 1))), some 74, none⟩, []⟩,
       ⟨⟨.iaddr 1 (.slot 72) (.slot 74), some 75, none⟩, []⟩,
       ⟨⟨.load false 1 (.slot 75), some 76, none⟩, []⟩,
       ⟨⟨.call (.const (.func 73 [] [])) [(.slot 71), (.slot 76)], some 77, none⟩, []⟩,
       ⟨⟨.un .not (.slot 77), some 78, none⟩, []⟩])
     (.cond (.slot 78)
      (.exit 4)
      .skip))
     (.region true [⟨⟨.mv (.slot 0), some 79, none⟩, []⟩,
       ⟨⟨.mv (.slot 9), some 80, none⟩, []⟩,
       ⟨⟨.mv (.slot 0), some 81, none⟩, []⟩,
       ⟨⟨.mv (.slot 9), some 82, none⟩, []⟩,
       ⟨⟨.bin .sub 3 .num (.slot 82) (.const (.int .i64 (.ofNat 1))), some 83, none⟩, []⟩,
       ⟨⟨.mv (.slot 0), some 84, none⟩, []⟩,
       ⟨⟨.mv (.slot 9), some 85, none⟩, []⟩,
       ⟨⟨.bin .sub 3 .num (.slot 85) (.const (.int .i64 (.ofNat 1))), some 86, none⟩, []⟩,
       ⟨⟨.iaddr 1 (.slot 84) (.slot 86), some 87, none⟩, []⟩,
       ⟨⟨.load false 1 (.slot 87), some 88, none⟩, []⟩,
       ⟨⟨.mv (.slot 0), some 89, none⟩, []⟩,
       ⟨⟨.mv (.slot 9), some 90, none⟩, []⟩,
       ⟨⟨.iaddr 1 (.slot 89) (.slot 90), some 91, none⟩, []⟩,
       ⟨⟨.load false 1 (.slot 91), some 92, none⟩, []⟩,
       ⟨⟨.iaddr 1 (.slot 79) (.slot 80), some 93, none⟩, []⟩,
       ⟨⟨.store 1 (.slot 93) (.slot 88), none, none⟩, []⟩,
       ⟨⟨.iaddr 1 (.slot 81) (.slot 83), some 94, none⟩, []⟩,
       ⟨⟨.store 1 (.slot 94) (.slot 92), none, none⟩, []⟩])))
     (.region false [⟨⟨.mv (.slot 9), some 66, none⟩, []⟩,
       ⟨⟨.bin .sub 3 .num (.slot 66) (.const (.int .i64 (.ofNat 1))), some 67, none⟩, []⟩,
       ⟨⟨.mv (.slot 67), some 9, none⟩, []⟩]))))))
    .skip))
   (.seq (.region false [⟨⟨.mv (.slot 2), some 95, none⟩, []⟩,
     ⟨⟨.mv (.slot 7), some 96, none⟩, []⟩,
     ⟨⟨.bin .sub 3 .num (.slot 95) (.slot 96), some 97, none⟩, []⟩,
     ⟨⟨.bin .geq 3 .num (.slot 97) (.const (.int .i64 (.ofNat 2))), some 98, none⟩, []⟩])
   (.cond (.slot 98)
    (.seq (.region false [⟨⟨.mv (.slot 7), some 99, none⟩, []⟩,
      ⟨⟨.bin .add 3 .num (.slot 99) (.const (.int .i64 (.ofNat 1))), some 100, none⟩, []⟩,
      ⟨⟨.mv (.slot 100), some 10, none⟩, []⟩])
    (.block 6 (.loop (.seq (.seq (.region false [⟨⟨.mv (.slot 10), some 101, none⟩, []⟩,
       ⟨⟨.mv (.slot 2), some 102, none⟩, []⟩,
       ⟨⟨.bin .lss 3 .num (.slot 101) (.slot 102), some 103, none⟩, []⟩])
     (.cond (.slot 103)
      .skip
      (.exit 6)))
     (.seq (.block 7 (.seq (.seq (.region true [⟨⟨.mv (.slot 0), some 106, none⟩, []⟩,
       ⟨⟨.mv (.slot 10), some 107, none⟩, []⟩,
       ⟨⟨.iaddr 1 (.slot 106) (.slot 107), some 108, none⟩, []⟩,
       ⟨⟨.load false 1 (.slot 108), some 109, none⟩, []⟩,
       ⟨⟨.mv (.slot 0), some 110, none⟩, []⟩,
       ⟨⟨.mv (.slot 10), some 111, none⟩, []⟩,
       ⟨⟨.bin .sub 3 .num (.slot 111) (.const (.int .i64 (.ofNat 1))), some 112, none⟩, []⟩,
       ⟨⟨.iaddr 1 (.slot 110) (.slot 112), some 113, none⟩, []⟩,
       ⟨⟨.load false 1 (.slot 113), some 114, none⟩, []⟩,
       ⟨⟨.call (.const (.func 73 [] [])) [(.slot 109), (.slot 114)], some 115, none⟩, []⟩,
       ⟨⟨.un .not (.slot 115), some 116, none⟩, []⟩])
     (.cond (.slot 116)
      (.exit 6)
      .skip))
     (.region true [⟨⟨.mv (.slot 0), some 117, none⟩, []⟩,
       ⟨⟨.mv (.slot 10), some 118, none⟩, []⟩,
       ⟨⟨.mv (.slot 0), some 119, none⟩, []⟩,
       ⟨⟨.mv (.slot 10), some 120, none⟩, []⟩,
       ⟨⟨.bin .sub 3 .num (.slot 120) (.const (.int .i64 (.ofNat 1))), some 121, none⟩, []⟩,
       ⟨⟨.mv (.slot 0), some 122, none⟩, []⟩,
       ⟨⟨.mv (.slot 10), some 123, none⟩, []⟩,
       ⟨⟨.bin .sub 3 .num (.slot 123) (.const (.int .i64 (.ofNat 1))), some 124, none⟩, []⟩,
       ⟨⟨.iaddr 1 (.slot 122) (.slot 124), some 125, none⟩, []⟩,
       ⟨⟨.load false 1 (.slot 125), some 126, none⟩, []⟩,
       ⟨⟨.mv (.slot 0), some 127, none⟩, []⟩,
       ⟨⟨.mv (.slot 10), some 128, none⟩, []⟩,
       ⟨⟨.iaddr 1 (.slot 127) (.slot 128), some 129, none⟩, []⟩,
       ⟨⟨.load false 1 (.slot 129), some 130, none⟩, []⟩,
       ⟨⟨.iaddr 1 (.slot 117) (.slot 118), some 131, none⟩, []⟩,
       ⟨⟨.store 1 (.slot 131) (.slot 126), none, none⟩, []⟩,
       ⟨⟨.iaddr 1 (.slot 119) (.slot 121), some 132, none⟩, []⟩,
       ⟨⟨.store 1 (.slot 132) (.slot 130), none, none⟩, []⟩])))
     (.region false [⟨⟨.mv (.slot 10), some 104, none⟩, []⟩,
       ⟨⟨.bin .add 3 .num (.slot 104) (.const (.int .i64 (.ofNat 1))), some 105, none⟩, []⟩,
       ⟨⟨.mv (.slot 105), some 10, none⟩, []⟩]))))))
    .skip))))))))
   (.region false [⟨⟨.mv (.slot 8), some 15, none⟩, []⟩,
     ⟨⟨.bin .add 3 .num (.slot 15) (.const (.int .i64 (.ofNat 1))), some 16, none⟩, []⟩,
     ⟨⟨.mv (.slot 16), some 8, none⟩, []⟩]))))))
  (.seq (.region false [⟨⟨.mv (.const (.bool false)), some 6, none⟩, []⟩])
  .ret)))),
  [.tmp 6]⟩
theorem xf72_ok : compFunc Tryz.prog Tryz.f72 = some xf72 := by kernel_rfl
end Go.Proofs.YtdegagpgjejomaaGreat

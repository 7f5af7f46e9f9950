/- The functions of the program in X's code, printed by a program of ours; each is what the program's own is turned to. -/
import Derived.Test.YtdceckhkmfbpmaaGreatProg
import Derived.Test.YtdceckhkmfbpmaaGreatXc
import Derived.KernelRfl
namespace Go.Proofs.YtdceckhkmfbpmaaGreat
open Go.Xr
/-- slices.partitionOrdered[int] -/
def xf112 : XFunc := ⟨(.seq (.region false [⟨⟨.mv (.const (.int .i64 (.ofNat 0))), some 8, none⟩, []⟩,
    ⟨⟨.mv (.const (.bool false)), some 9, none⟩, []⟩])
  (.seq (.region true [⟨⟨.mv (.slot 0), some 12, none⟩, []⟩,
    ⟨⟨.mv (.slot 1), some 13, none⟩, []⟩,
    ⟨⟨.mv (.slot 0), some 14, none⟩, []⟩,
    ⟨⟨.mv (.slot 3), some 15, none⟩, []⟩,
    ⟨⟨.mv (.slot 0), some 16, none⟩, []⟩,
    ⟨⟨.mv (.slot 3), some 17, none⟩, []⟩,
    ⟨⟨.iaddr 1 (.slot 16) (.slot 17), some 18, none⟩, []⟩,
    ⟨⟨.load false 1 (.slot 18), some 19, none⟩, []⟩,
    ⟨⟨.mv (.slot 0), some 20, none⟩, []⟩,
    ⟨⟨.mv (.slot 1), some 21, none⟩, []⟩,
    ⟨⟨.iaddr 1 (.slot 20) (.slot 21), some 22, none⟩, []⟩,
    ⟨⟨.load false 1 (.slot 22), some 23, none⟩, []⟩,
    ⟨⟨.iaddr 1 (.slot 12) (.slot 13), some 24, none⟩, []⟩,
    ⟨⟨.store 1 (.slot 24) (.slot 19), none, none⟩, []⟩,
    ⟨⟨.iaddr 1 (.slot 14) (.slot 15), some 25, none⟩, []⟩,
    ⟨⟨.store 1 (.slot 25) (.slot 23), none, none⟩, []⟩])
  (.seq (.region false [⟨⟨.mv (.slot 1), some 26, none⟩, []⟩,
    ⟨⟨.bin .add 3 .num (.slot 26) (.const (.int .i64 (.ofNat 1))), some 27, none⟩, []⟩,
    ⟨⟨.mv (.slot 2), some 28, none⟩, []⟩,
    ⟨⟨.bin .sub 3 .num (.slot 28) (.const (.int .i64 (.ofNat 1))), some 29, none⟩, []⟩,
    ⟨⟨.mv (.slot 27), some 10, none⟩, []⟩,
    ⟨⟨.mv (.slot 29), some 11, none⟩, []⟩])
  (.seq (.block 0 (.loop (.seq (.seq (.region true [⟨⟨.mv (.slot 10), some 30, none⟩, []⟩,
     ⟨⟨.mv (.slot 11), some 31, none⟩, []⟩,
     ⟨⟨.bin .leq 3 .num (.slot 30) (.slot 31), some 32, none⟩, []⟩,
     ⟨⟨.mv (.slot 32), some 33, none⟩, []⟩,
     ⟨⟨.mv (.slot 0), some 34, some (33, true)⟩, []⟩,
     ⟨⟨.mv (.slot 10), some 35, some (33, true)⟩, []⟩,
     ⟨⟨.iaddr 1 (.slot 34) (.slot 35), some 36, some (33, true)⟩, []⟩,
     ⟨⟨.load false 1 (.slot 36), some 37, some (33, true)⟩, []⟩,
     ⟨⟨.mv (.slot 0), some 38, some (33, true)⟩, []⟩,
     ⟨⟨.mv (.slot 1), some 39, some (33, true)⟩, []⟩,
     ⟨⟨.iaddr 1 (.slot 38) (.slot 39), some 40, some (33, true)⟩, []⟩,
     ⟨⟨.load false 1 (.slot 40), some 41, some (33, true)⟩, []⟩,
     ⟨⟨.call (.const (.func 110 [] [])) [(.slot 37), (.slot 41)], some 42, some (33, true)⟩, []⟩,
     ⟨⟨.pick (.slot 33) (.slot 42) (.const (.bool false)), some 43, none⟩, []⟩])
   (.cond (.slot 43)
    .skip
    (.exit 0)))
   (.block 1 (.region false [⟨⟨.mv (.slot 10), some 44, none⟩, []⟩,
     ⟨⟨.bin .add 3 .num (.slot 44) (.const (.int .i64 (.ofNat 1))), some 45, none⟩, []⟩,
     ⟨⟨.mv (.slot 45), some 10, none⟩, []⟩])))))
  (.seq (.block 2 (.loop (.seq (.seq (.region true [⟨⟨.mv (.slot 10), some 46, none⟩, []⟩,
     ⟨⟨.mv (.slot 11), some 47, none⟩, []⟩,
     ⟨⟨.bin .leq 3 .num (.slot 46) (.slot 47), some 48, none⟩, []⟩,
     ⟨⟨.mv (.slot 48), some 49, none⟩, []⟩,
     ⟨⟨.mv (.slot 0), some 50, some (49, true)⟩, []⟩,
     ⟨⟨.mv (.slot 11), some 51, some (49, true)⟩, []⟩,
     ⟨⟨.iaddr 1 (.slot 50) (.slot 51), some 52, some (49, true)⟩, []⟩,
     ⟨⟨.load false 1 (.slot 52), some 53, some (49, true)⟩, []⟩,
     ⟨⟨.mv (.slot 0), some 54, some (49, true)⟩, []⟩,
     ⟨⟨.mv (.slot 1), some 55, some (49, true)⟩, []⟩,
     ⟨⟨.iaddr 1 (.slot 54) (.slot 55), some 56, some (49, true)⟩, []⟩,
     ⟨⟨.load false 1 (.slot 56), some 57, some (49, true)⟩, []⟩,
     ⟨⟨.call (.const (.func 110 [] [])) [(.slot 53), (.slot 57)], some 58, some (49, true)⟩, []⟩,
     ⟨⟨.un .not (.slot 58), some 59, some (49, true)⟩, []⟩,
     ⟨⟨.pick (.slot 49) (.slot 59) (.const (.bool false)), some 60, none⟩, []⟩])
   (.cond (.slot 60)
    .skip
    (.exit 2)))
   (.block 3 (.region false [⟨⟨.mv (.slot 11), some 61, none⟩, []⟩,
     ⟨⟨.bin .sub 3 .num (.slot 61) (.const (.int .i64 (.ofNat 1))), some 62, none⟩, []⟩,
     ⟨⟨.mv (.slot 62), some 11, none⟩, []⟩])))))
  (.seq (.seq (.region false [⟨⟨.mv (.slot 10), some 63, none⟩, []⟩,
    ⟨⟨.mv (.slot 11), some 64, none⟩, []⟩,
    ⟨⟨.bin .gtr 3 .num (.slot 63) (.slot 64), some 65, none⟩, []⟩])
  (.cond (.slot 65)
   (.seq (.region true [⟨⟨.mv (.slot 0), some 66, none⟩, []⟩,
     ⟨⟨.mv (.slot 11), some 67, none⟩, []⟩,
     ⟨⟨.mv (.slot 0), some 68, none⟩, []⟩,
     ⟨⟨.mv (.slot 1), some 69, none⟩, []⟩,
     ⟨⟨.mv (.slot 0), some 70, none⟩, []⟩,
     ⟨⟨.mv (.slot 1), some 71, none⟩, []⟩,
     ⟨⟨.iaddr 1 (.slot 70) (.slot 71), some 72, none⟩, []⟩,
     ⟨⟨.load false 1 (.slot 72), some 73, none⟩, []⟩,
     ⟨⟨.mv (.slot 0), some 74, none⟩, []⟩,
     ⟨⟨.mv (.slot 11), some 75, none⟩, []⟩,
     ⟨⟨.iaddr 1 (.slot 74) (.slot 75), some 76, none⟩, []⟩,
     ⟨⟨.load false 1 (.slot 76), some 77, none⟩, []⟩,
     ⟨⟨.iaddr 1 (.slot 66) (.slot 67), some 78, none⟩, []⟩,
     ⟨⟨.store 1 (.slot 78) (.slot 73), none, none⟩, []⟩,
     ⟨⟨.iaddr 1 (.slot 68) (.slot 69), some 79, none⟩, []⟩,
     ⟨⟨.store 1 (.slot 79) (.slot 77), none, none⟩, []⟩])
   (.seq (.region false [⟨⟨.mv (.slot 11), some 80, none⟩, []⟩,
     ⟨⟨.mv (.slot 80), some 8, none⟩, []⟩,
     ⟨⟨.mv (.const (.bool true)), some 9, none⟩, []⟩])
   .ret))
   .skip))
  (.seq (.region true [⟨⟨.mv (.slot 0), some 81, none⟩, []⟩,
    ⟨⟨.mv (.slot 10), some 82, none⟩, []⟩,
    ⟨⟨.mv (.slot 0), some 83, none⟩, []⟩,
    ⟨⟨.mv (.slot 11), some 84, none⟩, []⟩,
    ⟨⟨.mv (.slot 0), some 85, none⟩, []⟩,
    ⟨⟨.mv (.slot 11), some 86, none⟩, []⟩,
    ⟨⟨.iaddr 1 (.slot 85) (.slot 86), some 87, none⟩, []⟩,
    ⟨⟨.load false 1 (.slot 87), some 88, none⟩, []⟩,
    ⟨⟨.mv (.slot 0), some 89, none⟩, []⟩,
    ⟨⟨.mv (.slot 10), some 90, none⟩, []⟩,
    ⟨⟨.iaddr 1 (.slot 89) (.slot 90), some 91, none⟩, []⟩,
    ⟨⟨.load false 1 (.slot 91), some 92, none⟩, []⟩,
    ⟨⟨.iaddr 1 (.slot 81) (.slot 82), some 93, none⟩, []⟩,
    ⟨⟨.store 1 (.slot 93) (.slot 88), none, none⟩, []⟩,
    ⟨⟨.iaddr 1 (.slot 83) (.slot 84), some 94, none⟩, []⟩,
    ⟨⟨.store 1 (.slot 94) (.slot 92), none, none⟩, []⟩])
  (.seq (.region false [⟨⟨.mv (.slot 10), some 95, none⟩, []⟩,
    ⟨⟨.bin .add 3 .num (.slot 95) (.const (.int .i64 (.ofNat 1))), some 96, none⟩, []⟩,
    ⟨⟨.mv (.slot 96), some 10, none⟩, []⟩])
  (.seq (.region false [⟨⟨.mv (.slot 11), some 97, none⟩, []⟩,
    ⟨⟨.bin .sub 3 .num (.slot 97) (.const (.int .i64 (.ofNat 1))), some 98, none⟩, []⟩,
    ⟨⟨.mv (.slot 98), some 11, none⟩, []⟩])
  (.seq (.block 4 (.loop (.block 5 (.seq (.block 6 (.loop (.seq (.seq (.region true [⟨⟨.mv (.slot 10), some 99, none⟩, []⟩,
      ⟨⟨.mv (.slot 11), some 100, none⟩, []⟩,
      ⟨⟨.bin .leq 3 .num (.slot 99) (.slot 100), some 101, none⟩, []⟩,
      ⟨⟨.mv (.slot 101), some 102, none⟩, []⟩,
      ⟨⟨.mv (.slot 0), some 103, some (102, true)⟩, []⟩,
      ⟨⟨.mv (.slot 10), some 104, some (102, true)⟩, []⟩,
      ⟨⟨.iaddr 1 (.slot 103) (.slot 104), some 105, some (102, true)⟩, []⟩,
      ⟨⟨.load false 1 (.slot 105), some 106, some (102, true)⟩, []⟩,
      ⟨⟨.mv (.slot 0), some 107, some (102, true)⟩, []⟩,
      ⟨⟨.mv (.slot 1), some 108, some (102, true)⟩, []⟩,
      ⟨⟨.iaddr 1 (.slot 107) (.slot 108), some 109, some (102, true)⟩, []⟩,
      ⟨⟨.load false 1 (.slot 109), some 110, some (102, true)⟩, []⟩,
      ⟨⟨.call (.const (.func 110 [] [])) [(.slot 106), (.slot 110)], some 111, some (102, true)⟩, []⟩,
      ⟨⟨.pick (.slot 102) (.slot 111) (.const (.bool false)), some 112, none⟩, []⟩])
    (.cond (.slot 112)
     .skip
     (.exit 6)))
    (.block 7 (.region false [⟨⟨.mv (.slot 10), some 113, none⟩, []⟩,
      ⟨⟨.bin .add 3 .num (.slot 113) (.const (.int .i64 (.ofNat 1))), some 114, none⟩, []⟩,
      ⟨⟨.mv (.slot 114), some 10, none⟩, []⟩])))))
   (.seq (.block 8 (.loop (.seq (.seq (.region true [⟨⟨.mv (.slot 10), some 115, none⟩, []⟩,
      ⟨⟨.mv (.slot 11), some 116, none⟩, []⟩,
      ⟨⟨.bin .leq 3 .num (.slot 115) (.slot 116), some 117, none⟩, []⟩,
      ⟨⟨.mv (.slot 117), some 118, none⟩, []⟩,
      ⟨⟨.mv (.slot 0), some 119, some (118, true)⟩, []⟩,
      ⟨⟨.mv (.slot 11), some 120, some (118, true)⟩, []⟩,
      ⟨⟨.iaddr 1 (.slot 119) (.slot 120), some 121, some (118, true)⟩, []⟩,
      ⟨⟨.load false 1 (.slot 121), some 122, some (118, true)⟩, []⟩,
      ⟨⟨.mv (.slot 0), some 123, some (118, true)⟩, []⟩,
      ⟨⟨.mv (.slot 1), some 124, some (118, true)⟩, []⟩,
      ⟨⟨.iaddr 1 (.slot 123) (.slot 124), some 125, some (118, true)⟩, []⟩,
      ⟨⟨.load false 1 (.slot 125), some 126, some (118, true)⟩, []⟩,
      ⟨⟨.call (.const (.func 110 [] [])) [(.slot 122), (.slot 126)], some 127, some (118, true)⟩, []⟩,
      ⟨⟨.un .not (.slot 127), some 128, some (118, true)⟩, []⟩,
      ⟨⟨.pick (.slot 118) (.slot 128) (.const (.bool false)), some 129, none⟩, []⟩])
    (.cond (.slot 129)
     .skip
     (.exit 8)))
    (.block 9 (.region false [⟨⟨.mv (.slot 11), some 130, none⟩, []⟩,
      ⟨⟨.bin .sub 3 .num (.slot 130) (.const (.int .i64 (.ofNat 1))), some 131, none⟩, []⟩,
      ⟨⟨.mv (.slot 131), some 11, none⟩, []⟩])))))
   (.seq (.seq (.region false [⟨⟨.mv (.slot 10), some 132, none⟩, []⟩,
     ⟨⟨.mv (.slot 11), some 133, none⟩, []⟩,
     ⟨⟨.bin .gtr 3 .num (.slot 132) (.slot 133), some 134, none⟩, []⟩])
   (.cond (.slot 134)
    (.exit 4)
    .skip))
   (.seq (.region true [⟨⟨.mv (.slot 0), some 135, none⟩, []⟩,
     ⟨⟨.mv (.slot 10), some 136, none⟩, []⟩,
     ⟨⟨.mv (.slot 0), some 137, none⟩, []⟩,
     ⟨⟨.mv (.slot 11), some 138, none⟩, []⟩,
     ⟨⟨.mv (.slot 0), some 139, none⟩, []⟩,
     ⟨⟨.mv (.slot 11), some 140, none⟩, []⟩,
     ⟨⟨.iaddr 1 (.slot 139) (.slot 140), some 141, none⟩, []⟩,
     ⟨⟨.load false 1 (.slot 141), some 142, none⟩, []⟩,
     ⟨⟨.mv (.slot 0), some 143, none⟩, []⟩,
     ⟨⟨.mv (.slot 10), some 144, none⟩, []⟩,
     ⟨⟨.iaddr 1 (.slot 143) (.slot 144), some 145, none⟩, []⟩,
     ⟨⟨.load false 1 (.slot 145), some 146, none⟩, []⟩,
     ⟨⟨.iaddr 1 (.slot 135) (.slot 136), some 147, none⟩, []⟩,
     ⟨⟨.store 1 (.slot 147) (.slot 142), none, none⟩, []⟩,
     ⟨⟨.iaddr 1 (.slot 137) (.slot 138), some 148, none⟩, []⟩,
     ⟨⟨.store 1 (.slot 148) (.slot 146), none, none⟩, []⟩])
   (.seq (.region false [⟨⟨.mv (.slot 10), some 149, none⟩, []⟩,
     ⟨⟨.bin .add 3 .num (.slot 149) (.const (.int .i64 (.ofNat 1))), some 150, none⟩, []⟩,
     ⟨⟨.mv (.slot 150), some 10, none⟩, []⟩])
   (.region false [⟨⟨.mv (.slot 11), some 151, none⟩, []⟩,
     ⟨⟨.bin .sub 3 .num (.slot 151) (.const (.int .i64 (.ofNat 1))), some 152, none⟩, []⟩,
     ⟨⟨.mv (.slot 152), some 11, none⟩, []⟩])))))))))
  (.seq (.region true [⟨⟨.mv (.slot 0), some 153, none⟩, []⟩,
    ⟨⟨.mv (.slot 11), some 154, none⟩, []⟩,
    ⟨⟨.mv (.slot 0), some 155, none⟩, []⟩,
    ⟨⟨.mv (.slot 1), some 156, none⟩, []⟩,
    ⟨⟨.mv (.slot 0), some 157, none⟩, []⟩,
    ⟨⟨.mv (.slot 1), some 158, none⟩, []⟩,
    ⟨⟨.iaddr 1 (.slot 157) (.slot 158), some 159, none⟩, []⟩,
    ⟨⟨.load false 1 (.slot 159), some 160, none⟩, []⟩,
    ⟨⟨.mv (.slot 0), some 161, none⟩, []⟩,
    ⟨⟨.mv (.slot 11), some 162, none⟩, []⟩,
    ⟨⟨.iaddr 1 (.slot 161) (.slot 162), some 163, none⟩, []⟩,
    ⟨⟨.load false 1 (.slot 163), some 164, none⟩, []⟩,
    ⟨⟨.iaddr 1 (.slot 153) (.slot 154), some 165, none⟩, []⟩,
    ⟨⟨.store 1 (.slot 165) (.slot 160), none, none⟩, []⟩,
    ⟨⟨.iaddr 1 (.slot 155) (.slot 156), some 166, none⟩, []⟩,
    ⟨⟨.store 1 (.slot 166) (.slot 164), none, none⟩, []⟩])
  (.seq (.region false [⟨⟨.mv (.slot 11), some 167, none⟩, []⟩,
    ⟨⟨.mv (.slot 167), some 8, none⟩, []⟩,
    ⟨⟨.mv (.const (.bool false)), some 9, none⟩, []⟩])
  .ret)))))))))))),
  [.tmp 8, .tmp 9]⟩
theorem xf112_ok : compFunc Tryz.prog Tryz.f112 = some xf112 := by kernel_rfl
/-- threshing/cnf.Subsumes -/
def xf113 : XFunc := ⟨(.seq (.region false [⟨⟨.box (.slot 1), some 3, none⟩, []⟩,
    ⟨⟨.mv (.const (.bool false)), some 4, none⟩, []⟩])
  (.seq (.region false [⟨⟨.mv (.slot 0), some 5, none⟩, []⟩,
    ⟨⟨.mkfunc 123 [] [(.slot 3)], some 6, none⟩, []⟩,
    ⟨⟨.call (.const (.func 50 [] [])) [(.slot 5), (.slot 6)], some 7, none⟩, []⟩,
    ⟨⟨.un .not (.slot 7), some 8, none⟩, []⟩,
    ⟨⟨.mv (.slot 8), some 4, none⟩, []⟩])
  .ret)),
  [.tmp 4]⟩
theorem xf113_ok : compFunc Tryz.prog Tryz.f113 = some xf113 := by kernel_rfl
/-- slices.pdqsortCmpFunc[threshing/api.Lit] -/
def xf114 : XFunc := ⟨(.seq (.region false [⟨⟨.mv (.const (.bool true)), some 10, none⟩, []⟩])
  (.seq (.region false [⟨⟨.mv (.const (.bool true)), some 11, none⟩, []⟩])
  (.block 0 (.loop (.block 1 (.seq (.region false [⟨⟨.mv (.slot 2), some 21, none⟩, []⟩,
     ⟨⟨.mv (.slot 1), some 22, none⟩, []⟩,
     ⟨⟨.bin .sub 3 .num (.slot 21) (.slot 22), some 23, none⟩, []⟩,
     ⟨⟨.mv (.slot 23), some 12, none⟩, []⟩])
   (.seq (.seq (.region false [⟨⟨.mv (.slot 12), some 24, none⟩, []⟩,
     ⟨⟨.bin .leq 3 .num (.slot 24) (.const (.int .i64 (.ofNat 12))), some 25, none⟩, []⟩])
   (.cond (.slot 25)
    (.seq (.region false [⟨⟨.mv (.slot 0), some 26, none⟩, []⟩,
      ⟨⟨.mv (.slot 1), some 27, none⟩, []⟩,
      ⟨⟨.mv (.slot 2), some 28, none⟩, []⟩,
      ⟨⟨.mv (.slot 4), some 29, none⟩, []⟩,
      ⟨⟨.call (.const (.func 124 [] [])) [(.slot 26), (.slot 27), (.slot 28), (.slot 29)], some 30, none⟩, []⟩])
    .ret)
    .skip))
   (.seq (.seq (.region false [⟨⟨.mv (.slot 3), some 31, none⟩, []⟩,
     ⟨⟨.bin .eql 3 .num (.slot 31) (.const (.int .i64 (.ofNat 0))), some 32, none⟩, []⟩])
   (.cond (.slot 32)
    (.seq (.region false [⟨⟨.mv (.slot 0), some 33, none⟩, []⟩,
      ⟨⟨.mv (.slot 1), some 34, none⟩, []⟩,
      ⟨⟨.mv (.slot 2), some 35, none⟩, []⟩,
      ⟨⟨.mv (.slot 4), some 36, none⟩, []⟩,
      ⟨⟨.call (.const (.func 125 [] [])) [(.slot 33), (.slot 34), (.slot 35), (.slot 36)], some 37, none⟩, []⟩])
    .ret)
    .skip))
   (.seq (.seq (.region false [⟨⟨.mv (.slot 10), some 38, none⟩, []⟩,
     ⟨⟨.un .not (.slot 38), some 39, none⟩, []⟩])
   (.cond (.slot 39)
    (.seq (.region false [⟨⟨.mv (.slot 0), some 40, none⟩, []⟩,
      ⟨⟨.mv (.slot 1), some 41, none⟩, []⟩,
      ⟨⟨.mv (.slot 2), some 42, none⟩, []⟩,
      ⟨⟨.mv (.slot 4), some 43, none⟩, []⟩,
      ⟨⟨.call (.const (.func 126 [] [])) [(.slot 40), (.slot 41), (.slot 42), (.slot 43)], some 44, none⟩, []⟩])
    (.region false [⟨⟨.mv (.slot 3), some 45, none⟩, []⟩,
      ⟨⟨.bin .sub 3 .num (.slot 45) (.const (.int .i64 (.ofNat 1))), some 46, none⟩, []⟩,
      ⟨⟨.mv (.slot 46), some 3, none⟩, []⟩]))
    .skip))
   (.seq (.region false [⟨⟨.mv (.slot 0), some 48, none⟩, []⟩,
     ⟨⟨.mv (.slot 1), some 49, none⟩, []⟩,
     ⟨⟨.mv (.slot 2), some 50, none⟩, []⟩,
     ⟨⟨.mv (.slot 4), some 51, none⟩, []⟩,
     ⟨⟨.call (.const (.func 127 [] [])) [(.slot 48), (.slot 49), (.slot 50), (.slot 51)], some 52, none⟩, []⟩,
     ⟨⟨.mv (.slot 52), some 47, none⟩, []⟩,
     ⟨⟨.extract (.slot 47) 0, some 53, none⟩, []⟩,
     ⟨⟨.extract (.slot 47) 1, some 54, none⟩, []⟩,
     ⟨⟨.mv (.slot 53), some 13, none⟩, []⟩,
     ⟨⟨.mv (.slot 54), some 14, none⟩, []⟩])
   (.seq (.seq (.region false [⟨⟨.mv (.slot 14), some 55, none⟩, []⟩,
     ⟨⟨.bin .eql 140 .num (.slot 55) (.const (.int .i64 (.ofNat 2))), some 56, none⟩, []⟩])
   (.cond (.slot 56)
    (.seq (.region false [⟨⟨.mv (.slot 0), some 57, none⟩, []⟩,
      ⟨⟨.mv (.slot 1), some 58, none⟩, []⟩,
      ⟨⟨.mv (.slot 2), some 59, none⟩, []⟩,
      ⟨⟨.mv (.slot 4), some 60, none⟩, []⟩,
      ⟨⟨.call (.const (.func 128 [] [])) [(.slot 57), (.slot 58), (.slot 59), (.slot 60)], some 61, none⟩, []⟩])
    (.seq (.region false [⟨⟨.mv (.slot 2), some 62, none⟩, []⟩,
      ⟨⟨.bin .sub 3 .num (.slot 62) (.const (.int .i64 (.ofNat 1))), some 63, none⟩, []⟩,
      ⟨⟨.mv (.slot 13), some 64, none⟩, []⟩,
      ⟨⟨.mv (.slot 1), some 65, none⟩, []⟩,
      ⟨⟨.bin .sub 3 .num (.slot 64) (.slot 65), some 66, none⟩, []⟩,
      ⟨⟨.bin .sub 3 .num (.slot 63) (.slot 66), some 67, none⟩, []⟩,
      ⟨⟨.mv (.slot 67), some 13, none⟩, []⟩])
    (.region false [⟨⟨.mv (.const (.int .i64 (.ofNat 1))), some 14, none⟩, []⟩])))
    .skip))
   (.seq (.seq (.region false [⟨⟨.mv (.slot 10), some 68, none⟩, []⟩,
     ⟨⟨.mv (.slot 68), some 69, none⟩, []⟩,
     ⟨⟨.mv (.slot 11), some 70, some (69, true)⟩, []⟩,
     ⟨⟨.pick (.slot 69) (.slot 70) (.const (.bool false)), some 71, none⟩, []⟩,
     ⟨⟨.mv (.slot 71), some 72, none⟩, []⟩,
     ⟨⟨.mv (.slot 14), some 73, some (72, true)⟩, []⟩,
     ⟨⟨.bin .eql 140 .num (.slot 73) (.const (.int .i64 (.ofNat 1))), some 74, some (72, true)⟩, []⟩,
     ⟨⟨.pick (.slot 72) (.slot 74) (.const (.bool false)), some 75, none⟩, []⟩])
   (.cond (.slot 75)
    (.seq (.region false [⟨⟨.mv (.slot 0), some 76, none⟩, []⟩,
      ⟨⟨.mv (.slot 1), some 77, none⟩, []⟩,
      ⟨⟨.mv (.slot 2), some 78, none⟩, []⟩,
      ⟨⟨.mv (.slot 4), some 79, none⟩, []⟩,
      ⟨⟨.call (.const (.func 129 [] [])) [(.slot 76), (.slot 77), (.slot 78), (.slot 79)], some 80, none⟩, []⟩])
    (.cond (.slot 80)
     .ret
     .skip))
    .skip))
   (.seq (.seq (.region true [⟨⟨.mv (.slot 1), some 81, none⟩, []⟩,
     ⟨⟨.bin .gtr 3 .num (.slot 81) (.const (.int .i64 (.ofNat 0))), some 82, none⟩, []⟩,
     ⟨⟨.mv (.slot 82), some 83, none⟩, []⟩,
     ⟨⟨.mv (.slot 4), some 84, some (83, true)⟩, []⟩,
     ⟨⟨.mv (.slot 0), some 85, some (83, true)⟩, []⟩,
     ⟨⟨.mv (.slot 1), some 86, some (83, true)⟩, []⟩,
     ⟨⟨.bin .sub 3 .num (.slot 86) (.const (.int .i64 (.ofNat 1))), some 87, some (83, true)⟩, []⟩,
     ⟨⟨.iaddr 1 (.slot 85) (.slot 87), some 88, some (83, true)⟩, []⟩,
     ⟨⟨.load false 1 (.slot 88), some 89, some (83, true)⟩, []⟩,
     ⟨⟨.mv (.slot 0), some 90, some (83, true)⟩, []⟩,
     ⟨⟨.mv (.slot 13), some 91, some (83, true)⟩, []⟩,
     ⟨⟨.iaddr 1 (.slot 90) (.slot 91), some 92, some (83, true)⟩, []⟩,
     ⟨⟨.load false 1 (.slot 92), some 93, some (83, true)⟩, []⟩,
     ⟨⟨.call (.slot 84) [(.slot 89), (.slot 93)], some 94, some (83, true)⟩, []⟩,
     ⟨⟨.bin .lss 3 .num (.slot 94) (.const (.int .i64 (.ofNat 0))), some 95, some (83, true)⟩, []⟩,
     ⟨⟨.un .not (.slot 95), some 96, some (83, true)⟩, []⟩,
     ⟨⟨.pick (.slot 83) (.slot 96) (.const (.bool false)), some 97, none⟩, []⟩])
   (.cond (.slot 97)
    (.seq (.region false [⟨⟨.mv (.slot 0), some 98, none⟩, []⟩,
      ⟨⟨.mv (.slot 1), some 99, none⟩, []⟩,
      ⟨⟨.mv (.slot 2), some 100, none⟩, []⟩,
      ⟨⟨.mv (.slot 13), some 101, none⟩, []⟩,
      ⟨⟨.mv (.slot 4), some 102, none⟩, []⟩,
      ⟨⟨.call (.const (.func 130 [] [])) [(.slot 98), (.slot 99), (.slot 100), (.slot 101), (.slot 102)], some 103, none⟩, []⟩,
      ⟨⟨.mv (.slot 103), some 15, none⟩, []⟩])
    (.seq (.region false [⟨⟨.mv (.slot 15), some 104, none⟩, []⟩,
      ⟨⟨.mv (.slot 104), some 1, none⟩, []⟩])
    (.exit 1)))
    .skip))
   (.seq (.region false [⟨⟨.mv (.slot 0), some 106, none⟩, []⟩,
     ⟨⟨.mv (.slot 1), some 107, none⟩, []⟩,
     ⟨⟨.mv (.slot 2), some 108, none⟩, []⟩,
     ⟨⟨.mv (.slot 13), some 109, none⟩, []⟩,
     ⟨⟨.mv (.slot 4), some 110, none⟩, []⟩,
     ⟨⟨.call (.const (.func 131 [] [])) [(.slot 106), (.slot 107), (.slot 108), (.slot 109), (.slot 110)], some 111, none⟩, []⟩,
     ⟨⟨.mv (.slot 111), some 105, none⟩, []⟩,
     ⟨⟨.extract (.slot 105) 0, some 112, none⟩, []⟩,
     ⟨⟨.extract (.slot 105) 1, some 113, none⟩, []⟩,
     ⟨⟨.mv (.slot 112), some 16, none⟩, []⟩,
     ⟨⟨.mv (.slot 113), some 17, none⟩, []⟩])
   (.seq (.region false [⟨⟨.mv (.slot 17), some 114, none⟩, []⟩,
     ⟨⟨.mv (.slot 114), some 11, none⟩, []⟩])
   (.seq (.region false [⟨⟨.mv (.slot 16), some 115, none⟩, []⟩,
     ⟨⟨.mv (.slot 1), some 116, none⟩, []⟩,
     ⟨⟨.bin .sub 3 .num (.slot 115) (.slot 116), some 117, none⟩, []⟩,
     ⟨⟨.mv (.slot 2), some 118, none⟩, []⟩,
     ⟨⟨.mv (.slot 16), some 119, none⟩, []⟩,
     ⟨⟨.bin .sub 3 .num (.slot 118) (.slot 119), some 120, none⟩, []⟩,
     ⟨⟨.mv (.slot 117), some 18, none⟩, []⟩,
     ⟨⟨.mv (.slot 120), some 19, none⟩, []⟩])
   (.seq (.region false [⟨⟨.mv (.slot 12), some 121, none⟩, []⟩,
     ⟨⟨.bin .quo 3 .num (.slot 121) (.const (.int .i64 (.ofNat 8))), some 122, none⟩, []⟩,
     ⟨⟨.mv (.slot 122), some 20, none⟩, []⟩])
   (.seq (.region false [⟨⟨.mv (.slot 18), some 123, none⟩, []⟩,
     ⟨⟨.mv (.slot 19), some 124, none⟩, []⟩,
     ⟨⟨.bin .lss 3 .num (.slot 123) (.slot 124), some 125, none⟩, []⟩])
   (.cond (.slot 125)
    (.seq (.region false [⟨⟨.mv (.slot 18), some 126, none⟩, []⟩,
      ⟨⟨.mv (.slot 20), some 127, none⟩, []⟩,
      ⟨⟨.bin .geq 3 .num (.slot 126) (.slot 127), some 128, none⟩, []⟩,
      ⟨⟨.mv (.slot 128), some 10, none⟩, []⟩])
    (.seq (.region false [⟨⟨.mv (.slot 0), some 129, none⟩, []⟩,
      ⟨⟨.mv (.slot 1), some 130, none⟩, []⟩,
      ⟨⟨.mv (.slot 16), some 131, none⟩, []⟩,
      ⟨⟨.mv (.slot 3), some 132, none⟩, []⟩,
      ⟨⟨.mv (.slot 4), some 133, none⟩, []⟩,
      ⟨⟨.call (.const (.func 114 [] [])) [(.slot 129), (.slot 130), (.slot 131), (.slot 132), (.slot 133)], some 134, none⟩, []⟩])
    (.region false [⟨⟨.mv (.slot 16), some 135, none⟩, []⟩,
      ⟨⟨.bin .add 3 .num (.slot 135) (.const (.int .i64 (.ofNat 1))), some 136, none⟩, []⟩,
      ⟨⟨.mv (.slot 136), some 1, none⟩, []⟩])))
    (.seq (.region false [⟨⟨.mv (.slot 19), some 137, none⟩, []⟩,
      ⟨⟨.mv (.slot 20), some 138, none⟩, []⟩,
      ⟨⟨.bin .geq 3 .num (.slot 137) (.slot 138), some 139, none⟩, []⟩,
      ⟨⟨.mv (.slot 139), some 10, none⟩, []⟩])
    (.seq (.region false [⟨⟨.mv (.slot 0), some 140, none⟩, []⟩,
      ⟨⟨.mv (.slot 16), some 141, none⟩, []⟩,
      ⟨⟨.bin .add 3 .num (.slot 141) (.const (.int .i64 (.ofNat 1))), some 142, none⟩, []⟩,
      ⟨⟨.mv (.slot 2), some 143, none⟩, []⟩,
      ⟨⟨.mv (.slot 3), some 144, none⟩, []⟩,
      ⟨⟨.mv (.slot 4), some 145, none⟩, []⟩,
      ⟨⟨.call (.const (.func 114 [] [])) [(.slot 140), (.slot 142), (.slot 143), (.slot 144), (.slot 145)], some 146, none⟩, []⟩])
    (.region false [⟨⟨.mv (.slot 16), some 147, none⟩, []⟩,
      ⟨⟨.mv (.slot 147), some 2, none⟩, []⟩])))))))))))))))))))))),
  []⟩
theorem xf114_ok : compFunc Tryz.prog Tryz.f114 = some xf114 := by kernel_rfl
/-- cmp.Or[int] -/
def xf115 : XFunc := ⟨(.seq (.region false [⟨⟨.mv (.const (.int .i64 (.ofNat 0))), some 2, none⟩, []⟩])
  (.seq (.region false [⟨⟨.mv (.const (.int .i64 (.ofNat 0))), some 3, none⟩, []⟩])
  (.seq (.seq (.region false [⟨⟨.mv (.slot 0), some 6, none⟩, []⟩,
    ⟨⟨.len .slice (.slot 6), some 7, none⟩, []⟩,
    ⟨⟨.mv (.const (.int .i64 (.ofNat 0))), some 8, none⟩, []⟩])
  (.block 0 (.loop (.seq (.region false [⟨⟨.bin .lss 3 .num (.slot 8) (.slot 7), some 9, none⟩, []⟩])
   (.seq (.cond (.slot 9)
    .skip
    (.exit 0))
   (.seq (.block 1 (.seq (.region false [⟨⟨.iaddr 1 (.slot 6) (.slot 8), some 10, none⟩, []⟩,
     ⟨⟨.load false 1 (.slot 10), some 11, none⟩, []⟩,
     ⟨⟨.mv (.slot 11), some 5, none⟩, []⟩])
   (.seq (.region false [⟨⟨.mv (.slot 5), some 12, none⟩, []⟩,
     ⟨⟨.mv (.slot 3), some 13, none⟩, []⟩,
     ⟨⟨.bin .neq 3 .num (.slot 12) (.slot 13), some 14, none⟩, []⟩])
   (.cond (.slot 14)
    (.seq (.region false [⟨⟨.mv (.slot 5), some 15, none⟩, []⟩,
      ⟨⟨.mv (.slot 15), some 2, none⟩, []⟩])
    .ret)
    .skip))))
   (.region false [⟨⟨.bin .add 3 .num (.slot 8) (.const (.int .i64 (.ofNat 1))), some 16, none⟩, []⟩,
     ⟨⟨.mv (.slot 16), some 8, none⟩, []⟩])))))))
  (.seq (.region false [⟨⟨.mv (.slot 3), some 17, none⟩, []⟩,
    ⟨⟨.mv (.slot 17), some 2, none⟩, []⟩])
  .ret)))),
  [.tmp 2]⟩
theorem xf115_ok : compFunc Tryz.prog Tryz.f115 = some xf115 := by kernel_rfl
/-- cmp.Compare[int] -/
def xf116 : XFunc := ⟨(.seq (.region false [⟨⟨.mv (.const (.int .i64 (.ofNat 0))), some 4, none⟩, []⟩])
  (.seq (.region false [⟨⟨.mv (.slot 0), some 7, none⟩, []⟩,
    ⟨⟨.call (.const (.func 122 [] [])) [(.slot 7)], some 8, none⟩, []⟩,
    ⟨⟨.mv (.slot 8), some 5, none⟩, []⟩])
  (.seq (.region false [⟨⟨.mv (.slot 1), some 9, none⟩, []⟩,
    ⟨⟨.call (.const (.func 122 [] [])) [(.slot 9)], some 10, none⟩, []⟩,
    ⟨⟨.mv (.slot 10), some 6, none⟩, []⟩])
  (.seq (.seq (.region false [⟨⟨.mv (.slot 5), some 11, none⟩, []⟩])
  (.cond (.slot 11)
   (.seq (.seq (.region false [⟨⟨.mv (.slot 6), some 12, none⟩, []⟩])
   (.cond (.slot 12)
    (.seq (.region false [⟨⟨.mv (.const (.int .i64 (.ofNat 0))), some 4, none⟩, []⟩])
    .ret)
    .skip))
   (.seq (.region false [⟨⟨.mv (.const (.int .i64 (.negSucc 0))), some 4, none⟩, []⟩])
   .ret))
   .skip))
  (.seq (.seq (.region false [⟨⟨.mv (.slot 6), some 13, none⟩, []⟩])
  (.cond (.slot 13)
   (.seq (.region false [⟨⟨.mv (.const (.int .i64 (.ofNat 1))), some 4, none⟩, []⟩])
   .ret)
   .skip))
  (.seq (.seq (.region false [⟨⟨.mv (.slot 0), some 14, none⟩, []⟩,
    ⟨⟨.mv (.slot 1), some 15, none⟩, []⟩,
    ⟨⟨.bin .lss 3 .num (.slot 14) (.slot 15), some 16, none⟩, []⟩])
  (.cond (.slot 16)
   (.seq (.region false [⟨⟨.mv (.const (.int .i64 (.negSucc 0))), some 4, none⟩, []⟩])
   .ret)
   .skip))
  (.seq (.seq (.region false [⟨⟨.mv (.slot 0), some 17, none⟩, []⟩,
    ⟨⟨.mv (.slot 1), some 18, none⟩, []⟩,
    ⟨⟨.bin .gtr 3 .num (.slot 17) (.slot 18), some 19, none⟩, []⟩])
  (.cond (.slot 19)
   (.seq (.region false [⟨⟨.mv (.const (.int .i64 (.ofNat 1))), some 4, none⟩, []⟩])
   .ret)
   .skip))
  (.seq (.region false [⟨⟨.mv (.const (.int .i64 (.ofNat 0))), some 4, none⟩, []⟩])
  .ret)))))))),
  [.tmp 4]⟩
theorem xf116_ok : compFunc Tryz.prog Tryz.f116 = some xf116 := by kernel_rfl
/-- cmp.Compare[threshing/api.Lit] -/
def xf117 : XFunc := ⟨(.seq (.region false [⟨⟨.mv (.const (.int .i64 (.ofNat 0))), some 4, none⟩, []⟩])
  (.seq (.region false [⟨⟨.mv (.slot 0), some 7, none⟩, []⟩,
    ⟨⟨.call (.const (.func 132 [] [])) [(.slot 7)], some 8, none⟩, []⟩,
    ⟨⟨.mv (.slot 8), some 5, none⟩, []⟩])
  (.seq (.region false [⟨⟨.mv (.slot 1), some 9, none⟩, []⟩,
    ⟨⟨.call (.const (.func 132 [] [])) [(.slot 9)], some 10, none⟩, []⟩,
    ⟨⟨.mv (.slot 10), some 6, none⟩, []⟩])
  (.seq (.seq (.region false [⟨⟨.mv (.slot 5), some 11, none⟩, []⟩])
  (.cond (.slot 11)
   (.seq (.seq (.region false [⟨⟨.mv (.slot 6), some 12, none⟩, []⟩])
   (.cond (.slot 12)
    (.seq (.region false [⟨⟨.mv (.const (.int .i64 (.ofNat 0))), some 4, none⟩, []⟩])
    .ret)
    .skip))
   (.seq (.region false [⟨⟨.mv (.const (.int .i64 (.negSucc 0))), some 4, none⟩, []⟩])
   .ret))
   .skip))
  (.seq (.seq (.region false [⟨⟨.mv (.slot 6), some 13, none⟩, []⟩])
  (.cond (.slot 13)
   (.seq (.region false [⟨⟨.mv (.const (.int .i64 (.ofNat 1))), some 4, none⟩, []⟩])
   .ret)
   .skip))
  (.seq (.seq (.region false [⟨⟨.mv (.slot 0), some 14, none⟩, []⟩,
    ⟨⟨.mv (.slot 1), some 15, none⟩, []⟩,
    ⟨⟨.bin .lss 24 .num (.slot 14) (.slot 15), some 16, none⟩, []⟩])
  (.cond (.slot 16)
   (.seq (.region false [⟨⟨.mv (.const (.int .i64 (.negSucc 0))), some 4, none⟩, []⟩])
   .ret)
   .skip))
  (.seq (.seq (.region false [⟨⟨.mv (.slot 0), some 17, none⟩, []⟩,
    ⟨⟨.mv (.slot 1), some 18, none⟩, []⟩,
    ⟨⟨.bin .gtr 24 .num (.slot 17) (.slot 18), some 19, none⟩, []⟩])
  (.cond (.slot 19)
   (.seq (.region false [⟨⟨.mv (.const (.int .i64 (.ofNat 1))), some 4, none⟩, []⟩])
   .ret)
   .skip))
  (.seq (.region false [⟨⟨.mv (.const (.int .i64 (.ofNat 0))), some 4, none⟩, []⟩])
  .ret)))))))),
  [.tmp 4]⟩
theorem xf117_ok : compFunc Tryz.prog Tryz.f117 = some xf117 := by kernel_rfl
/-- slices.order2Ordered[int64] -/
def xf118 : XFunc := ⟨(.seq (.region false [⟨⟨.mv (.const (.int .i64 (.ofNat 0))), some 8, none⟩, []⟩,
    ⟨⟨.mv (.const (.int .i64 (.ofNat 0))), some 9, none⟩, []⟩])
  (.seq (.seq (.region true [⟨⟨.mv (.slot 0), some 10, none⟩, []⟩,
    ⟨⟨.mv (.slot 2), some 11, none⟩, []⟩,
    ⟨⟨.iaddr 1 (.slot 10) (.slot 11), some 12, none⟩, []⟩,
    ⟨⟨.load false 1 (.slot 12), some 13, none⟩, []⟩,
    ⟨⟨.mv (.slot 0), some 14, none⟩, []⟩,
    ⟨⟨.mv (.slot 1), some 15, none⟩, []⟩,
    ⟨⟨.iaddr 1 (.slot 14) (.slot 15), some 16, none⟩, []⟩,
    ⟨⟨.load false 1 (.slot 16), some 17, none⟩, []⟩,
    ⟨⟨.call (.const (.func 83 [] [])) [(.slot 13), (.slot 17)], some 18, none⟩, []⟩])
  (.cond (.slot 18)
   (.seq (.region false [⟨⟨.mv (.slot 3), some 19, none⟩, []⟩,
     ⟨⟨.nilCheck (.slot 19), some 20, none⟩, []⟩,
     ⟨⟨.load false 1 (.slot 20), some 21, none⟩, []⟩,
     ⟨⟨.bin .add 3 .num (.slot 21) (.const (.int .i64 (.ofNat 1))), some 22, none⟩, []⟩,
     ⟨⟨.nilCheck (.slot 19), some 23, none⟩, []⟩,
     ⟨⟨.store 1 (.slot 23) (.slot 22), none, none⟩, []⟩])
   (.seq (.region false [⟨⟨.mv (.slot 2), some 24, none⟩, []⟩,
     ⟨⟨.mv (.slot 1), some 25, none⟩, []⟩,
     ⟨⟨.mv (.slot 24), some 8, none⟩, []⟩,
     ⟨⟨.mv (.slot 25), some 9, none⟩, []⟩])
   .ret))
   .skip))
  (.seq (.region false [⟨⟨.mv (.slot 1), some 26, none⟩, []⟩,
    ⟨⟨.mv (.slot 2), some 27, none⟩, []⟩,
    ⟨⟨.mv (.slot 26), some 8, none⟩, []⟩,
    ⟨⟨.mv (.slot 27), some 9, none⟩, []⟩])
  .ret))),
  [.tmp 8, .tmp 9]⟩
theorem xf118_ok : compFunc Tryz.prog Tryz.f118 = some xf118 := by kernel_rfl
/-- slices.siftDownOrdered[int] -/
def xf119 : XFunc := ⟨(.seq (.region false [⟨⟨.mv (.slot 1), some 10, none⟩, []⟩,
    ⟨⟨.mv (.slot 10), some 8, none⟩, []⟩])
  (.block 0 (.loop (.block 1 (.seq (.region false [⟨⟨.mv (.slot 8), some 11, none⟩, []⟩,
     ⟨⟨.bin .mul 3 .num (.const (.int .i64 (.ofNat 2))) (.slot 11), some 12, none⟩, []⟩,
     ⟨⟨.bin .add 3 .num (.slot 12) (.const (.int .i64 (.ofNat 1))), some 13, none⟩, []⟩,
     ⟨⟨.mv (.slot 13), some 9, none⟩, []⟩])
   (.seq (.seq (.region false [⟨⟨.mv (.slot 9), some 14, none⟩, []⟩,
     ⟨⟨.mv (.slot 2), some 15, none⟩, []⟩,
     ⟨⟨.bin .geq 3 .num (.slot 14) (.slot 15), some 16, none⟩, []⟩])
   (.cond (.slot 16)
    (.exit 0)
    .skip))
   (.seq (.seq (.region true [⟨⟨.mv (.slot 9), some 17, none⟩, []⟩,
     ⟨⟨.bin .add 3 .num (.slot 17) (.const (.int .i64 (.ofNat 1))), some 18, none⟩, []⟩,
     ⟨⟨.mv (.slot 2), some 19, none⟩, []⟩,
     ⟨⟨.bin .lss 3 .num (.slot 18) (.slot 19), some 20, none⟩, []⟩,
     ⟨⟨.mv (.slot 20), some 21, none⟩, []⟩,
     ⟨⟨.mv (.slot 0), some 22, some (21, true)⟩, []⟩,
     ⟨⟨.mv (.slot 3), some 23, some (21, true)⟩, []⟩,
     ⟨⟨.mv (.slot 9), some 24, some (21, true)⟩, []⟩,
     ⟨⟨.bin .add 3 .num (.slot 23) (.slot 24), some 25, some (21, true)⟩, []⟩,
     ⟨⟨.iaddr 1 (.slot 22) (.slot 25), some 26, some (21, true)⟩, []⟩,
     ⟨⟨.load false 1 (.slot 26), some 27, some (21, true)⟩, []⟩,
     ⟨⟨.mv (.slot 0), some 28, some (21, true)⟩, []⟩,
     ⟨⟨.mv (.slot 3), some 29, some (21, true)⟩, []⟩,
     ⟨⟨.mv (.slot 9), some 30, some (21, true)⟩, []⟩,
     ⟨⟨.bin .add 3 .num (.slot 29) (.slot 30), some 31, some (21, true)⟩, []⟩,
     ⟨⟨.bin .add 3 .num (.slot 31) (.const (.int .i64 (.ofNat 1))), some 32, some (21, true)⟩, []⟩,
     ⟨⟨.iaddr 1 (.slot 28) (.slot 32), some 33, some (21, true)⟩, []⟩,
     ⟨⟨.load false 1 (.slot 33), some 34, some (21, true)⟩, []⟩,
     ⟨⟨.call (.const (.func 110 [] [])) [(.slot 27), (.slot 34)], some 35, some (21, true)⟩, []⟩,
     ⟨⟨.pick (.slot 21) (.slot 35) (.const (.bool false)), some 36, none⟩, []⟩])
   (.cond (.slot 36)
    (.region false [⟨⟨.mv (.slot 9), some 37, none⟩, []⟩,
      ⟨⟨.bin .add 3 .num (.slot 37) (.const (.int .i64 (.ofNat 1))), some 38, none⟩, []⟩,
      ⟨⟨.mv (.slot 38), some 9, none⟩, []⟩])
    .skip))
   (.seq (.seq (.region true [⟨⟨.mv (.slot 0), some 39, none⟩, []⟩,
     ⟨⟨.mv (.slot 3), some 40, none⟩, []⟩,
     ⟨⟨.mv (.slot 8), some 41, none⟩, []⟩,
     ⟨⟨.bin .add 3 .num (.slot 40) (.slot 41), some 42, none⟩, []⟩,
     ⟨⟨.iaddr 1 (.slot 39) (.slot 42), some 43, none⟩, []⟩,
     ⟨⟨.load false 1 (.slot 43), some 44, none⟩, []⟩,
     ⟨⟨.mv (.slot 0), some 45, none⟩, []⟩,
     ⟨⟨.mv (.slot 3), some 46, none⟩, []⟩,
     ⟨⟨.mv (.slot 9), some 47, none⟩, []⟩,
     ⟨⟨.bin .add 3 .num (.slot 46) (.slot 47), some 48, none⟩, []⟩,
     ⟨⟨.iaddr 1 (.slot 45) (.slot 48), some 49, none⟩, []⟩,
     ⟨⟨.load false 1 (.slot 49), some 50, none⟩, []⟩,
     ⟨⟨.call (.const (.func 110 [] [])) [(.slot 44), (.slot 50)], some 51, none⟩, []⟩,
     ⟨⟨.un .not (.slot 51), some 52, none⟩, []⟩])
   (.cond (.slot 52)
    .ret
    .skip))
   (.seq (.region true [⟨⟨.mv (.slot 0), some 53, none⟩, []⟩,
     ⟨⟨.mv (.slot 3), some 54, none⟩, []⟩,
     ⟨⟨.mv (.slot 8), some 55, none⟩, []⟩,
     ⟨⟨.bin .add 3 .num (.slot 54) (.slot 55), some 56, none⟩, []⟩,
     ⟨⟨.mv (.slot 0), some 57, none⟩, []⟩,
     ⟨⟨.mv (.slot 3), some 58, none⟩, []⟩,
     ⟨⟨.mv (.slot 9), some 59, none⟩, []⟩,
     ⟨⟨.bin .add 3 .num (.slot 58) (.slot 59), some 60, none⟩, []⟩,
     ⟨⟨.mv (.slot 0), some 61, none⟩, []⟩,
     ⟨⟨.mv (.slot 3), some 62, none⟩, []⟩,
     ⟨⟨.mv (.slot 9), some 63, none⟩, []⟩,
     ⟨⟨.bin .add 3 .num (.slot 62) (.slot 63), some 64, none⟩, []⟩,
     ⟨⟨.iaddr 1 (.slot 61) (.slot 64), some 65, none⟩, []⟩,
     ⟨⟨.load false 1 (.slot 65), some 66, none⟩, []⟩,
     ⟨⟨.mv (.slot 0), some 67, none⟩, []⟩,
     ⟨⟨.mv (.slot 3), some 68, none⟩, []⟩,
     ⟨⟨.mv (.slot 8), some 69, none⟩, []⟩,
     ⟨⟨.bin .add 3 .num (.slot 68) (.slot 69), some 70, none⟩, []⟩,
     ⟨⟨.iaddr 1 (.slot 67) (.slot 70), some 71, none⟩, []⟩,
     ⟨⟨.load false 1 (.slot 71), some 72, none⟩, []⟩,
     ⟨⟨.iaddr 1 (.slot 53) (.slot 56), some 73, none⟩, []⟩,
     ⟨⟨.store 1 (.slot 73) (.slot 66), none, none⟩, []⟩,
     ⟨⟨.iaddr 1 (.slot 57) (.slot 60), some 74, none⟩, []⟩,
     ⟨⟨.store 1 (.slot 74) (.slot 72), none, none⟩, []⟩])
   (.region false [⟨⟨.mv (.slot 9), some 75, none⟩, []⟩,
     ⟨⟨.mv (.slot 75), some 8, none⟩, []⟩])))))))))),
  []⟩
theorem xf119_ok : compFunc Tryz.prog Tryz.f119 = some xf119 := by kernel_rfl
/-- slices.medianAdjacentOrdered[int] -/
def xf120 : XFunc := ⟨(.seq (.region false [⟨⟨.mv (.const (.int .i64 (.ofNat 0))), some 6, none⟩, []⟩])
  (.seq (.region false [⟨⟨.mv (.slot 0), some 7, none⟩, []⟩,
    ⟨⟨.mv (.slot 1), some 8, none⟩, []⟩,
    ⟨⟨.bin .sub 3 .num (.slot 8) (.const (.int .i64 (.ofNat 1))), some 9, none⟩, []⟩,
    ⟨⟨.mv (.slot 1), some 10, none⟩, []⟩,
    ⟨⟨.mv (.slot 1), some 11, none⟩, []⟩,
    ⟨⟨.bin .add 3 .num (.slot 11) (.const (.int .i64 (.ofNat 1))), some 12, none⟩, []⟩,
    ⟨⟨.mv (.slot 2), some 13, none⟩, []⟩,
    ⟨⟨.call (.const (.func 121 [] [])) [(.slot 7), (.slot 9), (.slot 10), (.slot 12), (.slot 13)], some 14, none⟩, []⟩,
    ⟨⟨.mv (.slot 14), some 6, none⟩, []⟩])
  .ret)),
  [.tmp 6]⟩
theorem xf120_ok : compFunc Tryz.prog Tryz.f120 = some xf120 := by kernel_rfl
/-- slices.medianOrdered[int] -/
def xf121 : XFunc := ⟨(.seq (.region false [⟨⟨.mv (.const (.int .i64 (.ofNat 0))), some 10, none⟩, []⟩])
  (.seq (.region false [⟨⟨.mv (.slot 0), some 12, none⟩, []⟩,
    ⟨⟨.mv (.slot 1), some 13, none⟩, []⟩,
    ⟨⟨.mv (.slot 2), some 14, none⟩, []⟩,
    ⟨⟨.mv (.slot 4), some 15, none⟩, []⟩,
    ⟨⟨.call (.const (.func 133 [] [])) [(.slot 12), (.slot 13), (.slot 14), (.slot 15)], some 16, none⟩, []⟩,
    ⟨⟨.mv (.slot 16), some 11, none⟩, []⟩,
    ⟨⟨.extract (.slot 11) 0, some 17, none⟩, []⟩,
    ⟨⟨.extract (.slot 11) 1, some 18, none⟩, []⟩,
    ⟨⟨.mv (.slot 17), some 1, none⟩, []⟩,
    ⟨⟨.mv (.slot 18), some 2, none⟩, []⟩])
  (.seq (.region false [⟨⟨.mv (.slot 0), some 20, none⟩, []⟩,
    ⟨⟨.mv (.slot 2), some 21, none⟩, []⟩,
    ⟨⟨.mv (.slot 3), some 22, none⟩, []⟩,
    ⟨⟨.mv (.slot 4), some 23, none⟩, []⟩,
    ⟨⟨.call (.const (.func 133 [] [])) [(.slot 20), (.slot 21), (.slot 22), (.slot 23)], some 24, none⟩, []⟩,
    ⟨⟨.mv (.slot 24), some 19, none⟩, []⟩,
    ⟨⟨.extract (.slot 19) 0, some 25, none⟩, []⟩,
    ⟨⟨.extract (.slot 19) 1, some 26, none⟩, []⟩,
    ⟨⟨.mv (.slot 25), some 2, none⟩, []⟩,
    ⟨⟨.mv (.slot 26), some 3, none⟩, []⟩])
  (.seq (.region false [⟨⟨.mv (.slot 0), some 28, none⟩, []⟩,
    ⟨⟨.mv (.slot 1), some 29, none⟩, []⟩,
    ⟨⟨.mv (.slot 2), some 30, none⟩, []⟩,
    ⟨⟨.mv (.slot 4), some 31, none⟩, []⟩,
    ⟨⟨.call (.const (.func 133 [] [])) [(.slot 28), (.slot 29), (.slot 30), (.slot 31)], some 32, none⟩, []⟩,
    ⟨⟨.mv (.slot 32), some 27, none⟩, []⟩,
    ⟨⟨.extract (.slot 27) 0, some 33, none⟩, []⟩,
    ⟨⟨.extract (.slot 27) 1, some 34, none⟩, []⟩,
    ⟨⟨.mv (.slot 33), some 1, none⟩, []⟩,
    ⟨⟨.mv (.slot 34), some 2, none⟩, []⟩])
  (.seq (.region false [⟨⟨.mv (.slot 2), some 35, none⟩, []⟩,
    ⟨⟨.mv (.slot 35), some 10, none⟩, []⟩])
  .ret))))),
  [.tmp 10]⟩
theorem xf121_ok : compFunc Tryz.prog Tryz.f121 = some xf121 := by kernel_rfl
/-- cmp.isNaN[int] -/
def xf122 : XFunc := ⟨(.seq (.region false [⟨⟨.mv (.const (.bool false)), some 2, none⟩, []⟩])
  (.seq (.region false [⟨⟨.mv (.slot 0), some 3, none⟩, []⟩,
    ⟨⟨.mv (.slot 0), some 4, none⟩, []⟩,
    ⟨⟨.bin .neq 3 .num (.slot 3) (.slot 4), some 5, none⟩, []⟩,
    ⟨⟨.mv (.slot 5), some 2, none⟩, []⟩])
  .ret)),
  [.tmp 2]⟩
theorem xf122_ok : compFunc Tryz.prog Tryz.f122 = some xf122 := by kernel_rfl
/-- threshing/cnf.Subsumes$1 -/
def xf123 : XFunc := ⟨(.seq (.region false [⟨⟨.mv (.const (.bool false)), some 3, none⟩, []⟩])
  (.seq (.region false [⟨⟨.load false 1 (.slot 1), some 4, none⟩, []⟩,
    ⟨⟨.mv (.slot 0), some 5, none⟩, []⟩,
    ⟨⟨.call (.const (.func 40 [] [])) [(.slot 4), (.slot 5)], some 6, none⟩, []⟩,
    ⟨⟨.un .not (.slot 6), some 7, none⟩, []⟩,
    ⟨⟨.mv (.slot 7), some 3, none⟩, []⟩])
  .ret)),
  [.tmp 3]⟩
theorem xf123_ok : compFunc Tryz.prog Tryz.f123 = some xf123 := by kernel_rfl
/-- slices.insertionSortCmpFunc[threshing/api.Lit] -/
def xf124 : XFunc := ⟨(.seq (.region false [⟨⟨.mv (.slot 1), some 10, none⟩, []⟩,
    ⟨⟨.bin .add 3 .num (.slot 10) (.const (.int .i64 (.ofNat 1))), some 11, none⟩, []⟩,
    ⟨⟨.mv (.slot 11), some 8, none⟩, []⟩])
  (.block 0 (.loop (.seq (.seq (.region false [⟨⟨.mv (.slot 8), some 12, none⟩, []⟩,
     ⟨⟨.mv (.slot 2), some 13, none⟩, []⟩,
     ⟨⟨.bin .lss 3 .num (.slot 12) (.slot 13), some 14, none⟩, []⟩])
   (.cond (.slot 14)
    .skip
    (.exit 0)))
   (.seq (.block 1 (.seq (.region false [⟨⟨.mv (.slot 8), some 17, none⟩, []⟩,
     ⟨⟨.mv (.slot 17), some 9, none⟩, []⟩])
   (.block 2 (.loop (.seq (.seq (.region true [⟨⟨.mv (.slot 9), some 18, none⟩, []⟩,
      ⟨⟨.mv (.slot 1), some 19, none⟩, []⟩,
      ⟨⟨.bin .gtr 3 .num (.slot 18) (.slot 19), some 20, none⟩, []⟩,
      ⟨⟨.mv (.slot 20), some 21, none⟩, []⟩,
      ⟨⟨.mv (.slot 3), some 22, some (21, true)⟩, []⟩,
      ⟨⟨.mv (.slot 0), some 23, some (21, true)⟩, []⟩,
      ⟨⟨.mv (.slot 9), some 24, some (21, true)⟩, []⟩,
      ⟨⟨.iaddr 1 (.slot 23) (.slot 24), some 25, some (21, true)⟩, []⟩,
      ⟨⟨.load false 1 (.slot 25), some 26, some (21, true)⟩, []⟩,
      ⟨⟨.mv (.slot 0), some 27, some (21, true)⟩, []⟩,
      ⟨⟨.mv (.slot 9), some 28, some (21, true)⟩, []⟩,
      ⟨⟨.bin .sub 3 .num (.slot 28) (.const (.int .i64 (.ofNat 1))), some 29, some (21, true)⟩, []⟩,
      ⟨⟨.iaddr 1 (.slot 27) (.slot 29), some 30, some (21, true)⟩, []⟩,
      ⟨⟨.load false 1 (.slot 30), some 31, some (21, true)⟩, []⟩,
      ⟨⟨.call (.slot 22) [(.slot 26), (.slot 31)], some 32, some (21, true)⟩, []⟩,
      ⟨⟨.bin .lss 3 .num (.slot 32) (.const (.int .i64 (.ofNat 0))), some 33, some (21, true)⟩, []⟩,
      ⟨⟨.pick (.slot 21) (.slot 33) (.const (.bool false)), some 34, none⟩, []⟩])
    (.cond (.slot 34)
     .skip
     (.exit 2)))
    (.seq (.block 3 (.region true [⟨⟨.mv (.slot 0), some 37, none⟩, []⟩,
      ⟨⟨.mv (.slot 9), some 38, none⟩, []⟩,
      ⟨⟨.mv (.slot 0), some 39, none⟩, []⟩,
      ⟨⟨.mv (.slot 9), some 40, none⟩, []⟩,
      ⟨⟨.bin .sub 3 .num (.slot 40) (.const (.int .i64 (.ofNat 1))), some 41, none⟩, []⟩,
      ⟨⟨.mv (.slot 0), some 42, none⟩, []⟩,
      ⟨⟨.mv (.slot 9), some 43, none⟩, []⟩,
      ⟨⟨.bin .sub 3 .num (.slot 43) (.const (.int .i64 (.ofNat 1))), some 44, none⟩, []⟩,
      ⟨⟨.iaddr 1 (.slot 42) (.slot 44), some 45, none⟩, []⟩,
      ⟨⟨.load false 1 (.slot 45), some 46, none⟩, []⟩,
      ⟨⟨.mv (.slot 0), some 47, none⟩, []⟩,
      ⟨⟨.mv (.slot 9), some 48, none⟩, []⟩,
      ⟨⟨.iaddr 1 (.slot 47) (.slot 48), some 49, none⟩, []⟩,
      ⟨⟨.load false 1 (.slot 49), some 50, none⟩, []⟩,
      ⟨⟨.iaddr 1 (.slot 37) (.slot 38), some 51, none⟩, []⟩,
      ⟨⟨.store 1 (.slot 51) (.slot 46), none, none⟩, []⟩,
      ⟨⟨.iaddr 1 (.slot 39) (.slot 41), some 52, none⟩, []⟩,
      ⟨⟨.store 1 (.slot 52) (.slot 50), none, none⟩, []⟩]))
    (.region false [⟨⟨.mv (.slot 9), some 35, none⟩, []⟩,
      ⟨⟨.bin .sub 3 .num (.slot 35) (.const (.int .i64 (.ofNat 1))), some 36, none⟩, []⟩,
      ⟨⟨.mv (.slot 36), some 9, none⟩, []⟩])))))))
   (.region false [⟨⟨.mv (.slot 8), some 15, none⟩, []⟩,
     ⟨⟨.bin .add 3 .num (.slot 15) (.const (.int .i64 (.ofNat 1))), some 16, none⟩, []⟩,
     ⟨⟨.mv (.slot 16), some 8, none⟩, []⟩])))))),
  []⟩
theorem xf124_ok : compFunc Tryz.prog Tryz.f124 = some xf124 := by kernel_rfl
/-- slices.heapSortCmpFunc[threshing/api.Lit] -/
def xf125 : XFunc := ⟨(.seq (.region false [⟨⟨.mv (.slot 1), some 13, none⟩, []⟩,
    ⟨⟨.mv (.slot 13), some 8, none⟩, []⟩])
  (.seq (.region false [⟨⟨.mv (.const (.int .i64 (.ofNat 0))), some 9, none⟩, []⟩])
  (.seq (.region false [⟨⟨.mv (.slot 2), some 14, none⟩, []⟩,
    ⟨⟨.mv (.slot 1), some 15, none⟩, []⟩,
    ⟨⟨.bin .sub 3 .num (.slot 14) (.slot 15), some 16, none⟩, []⟩,
    ⟨⟨.mv (.slot 16), some 10, none⟩, []⟩])
  (.seq (.seq (.region false [⟨⟨.mv (.slot 10), some 17, none⟩, []⟩,
    ⟨⟨.bin .sub 3 .num (.slot 17) (.const (.int .i64 (.ofNat 1))), some 18, none⟩, []⟩,
    ⟨⟨.bin .quo 3 .num (.slot 18) (.const (.int .i64 (.ofNat 2))), some 19, none⟩, []⟩,
    ⟨⟨.mv (.slot 19), some 11, none⟩, []⟩])
  (.block 0 (.loop (.seq (.seq (.region false [⟨⟨.mv (.slot 11), some 20, none⟩, []⟩,
     ⟨⟨.bin .geq 3 .num (.slot 20) (.const (.int .i64 (.ofNat 0))), some 21, none⟩, []⟩])
   (.cond (.slot 21)
    .skip
    (.exit 0)))
   (.seq (.block 1 (.region false [⟨⟨.mv (.slot 0), some 24, none⟩, []⟩,
     ⟨⟨.mv (.slot 11), some 25, none⟩, []⟩,
     ⟨⟨.mv (.slot 10), some 26, none⟩, []⟩,
     ⟨⟨.mv (.slot 8), some 27, none⟩, []⟩,
     ⟨⟨.mv (.slot 3), some 28, none⟩, []⟩,
     ⟨⟨.call (.const (.func 134 [] [])) [(.slot 24), (.slot 25), (.slot 26), (.slot 27), (.slot 28)], some 29, none⟩, []⟩]))
   (.region false [⟨⟨.mv (.slot 11), some 22, none⟩, []⟩,
     ⟨⟨.bin .sub 3 .num (.slot 22) (.const (.int .i64 (.ofNat 1))), some 23, none⟩, []⟩,
     ⟨⟨.mv (.slot 23), some 11, none⟩, []⟩]))))))
  (.seq (.region false [⟨⟨.mv (.slot 10), some 30, none⟩, []⟩,
    ⟨⟨.bin .sub 3 .num (.slot 30) (.const (.int .i64 (.ofNat 1))), some 31, none⟩, []⟩,
    ⟨⟨.mv (.slot 31), some 12, none⟩, []⟩])
  (.block 2 (.loop (.seq (.seq (.region false [⟨⟨.mv (.slot 12), some 32, none⟩, []⟩,
     ⟨⟨.bin .geq 3 .num (.slot 32) (.const (.int .i64 (.ofNat 0))), some 33, none⟩, []⟩])
   (.cond (.slot 33)
    .skip
    (.exit 2)))
   (.seq (.block 3 (.seq (.region true [⟨⟨.mv (.slot 0), some 36, none⟩, []⟩,
     ⟨⟨.mv (.slot 8), some 37, none⟩, []⟩,
     ⟨⟨.mv (.slot 0), some 38, none⟩, []⟩,
     ⟨⟨.mv (.slot 8), some 39, none⟩, []⟩,
     ⟨⟨.mv (.slot 12), some 40, none⟩, []⟩,
     ⟨⟨.bin .add 3 .num (.slot 39) (.slot 40), some 41, none⟩, []⟩,
     ⟨⟨.mv (.slot 0), some 42, none⟩, []⟩,
     ⟨⟨.mv (.slot 8), some 43, none⟩, []⟩,
     ⟨⟨.mv (.slot 12), some 44, none⟩, []⟩,
     ⟨⟨.bin .add 3 .num (.slot 43) (.slot 44), some 45, none⟩, []⟩,
     ⟨⟨.iaddr 1 (.slot 42) (.slot 45), some 46, none⟩, []⟩,
     ⟨⟨.load false 1 (.slot 46), some 47, none⟩, []⟩,
     ⟨⟨.mv (.slot 0), some 48, none⟩, []⟩,
     ⟨⟨.mv (.slot 8), some 49, none⟩, []⟩,
     ⟨⟨.iaddr 1 (.slot 48) (.slot 49), some 50, none⟩, []⟩,
     ⟨⟨.load false 1 (.slot 50), some 51, none⟩, []⟩,
     ⟨⟨.iaddr 1 (.slot 36) (.slot 37), some 52, none⟩, []⟩,
     ⟨⟨.store 1 (.slot 52) (.slot 47), none, none⟩, []⟩,
     ⟨⟨.iaddr 1 (.slot 38) (.slot 41), some 53, none⟩, []⟩,
     ⟨⟨.store 1 (.slot 53) (.slot 51), none, none⟩, []⟩])
   (.region false [⟨⟨.mv (.slot 0), some 54, none⟩, []⟩,
     ⟨⟨.mv (.slot 9), some 55, none⟩, []⟩,
     ⟨⟨.mv (.slot 12), some 56, none⟩, []⟩,
     ⟨⟨.mv (.slot 8), some 57, none⟩, []⟩,
     ⟨⟨.mv (.slot 3), some 58, none⟩, []⟩,
     ⟨⟨.call (.const (.func 134 [] [])) [(.slot 54), (.slot 55), (.slot 56), (.slot 57), (.slot 58)], some 59, none⟩, []⟩])))
   (.region false [⟨⟨.mv (.slot 12), some 34, none⟩, []⟩,
     ⟨⟨.bin .sub 3 .num (.slot 34) (.const (.int .i64 (.ofNat 1))), some 35, none⟩, []⟩,
     ⟨⟨.mv (.slot 35), some 12, none⟩, []⟩])))))))))),
  []⟩
theorem xf125_ok : compFunc Tryz.prog Tryz.f125 = some xf125 := by kernel_rfl
/-- slices.breakPatternsCmpFunc[threshing/api.Lit] -/
def xf126 : XFunc := ⟨(.seq (.region false [⟨⟨.mv (.slot 2), some 13, none⟩, []⟩,
    ⟨⟨.mv (.slot 1), some 14, none⟩, []⟩,
    ⟨⟨.bin .sub 3 .num (.slot 13) (.slot 14), some 15, none⟩, []⟩,
    ⟨⟨.mv (.slot 15), some 8, none⟩, []⟩])
  (.seq (.region false [⟨⟨.mv (.slot 8), some 16, none⟩, []⟩,
    ⟨⟨.bin .geq 3 .num (.slot 16) (.const (.int .i64 (.ofNat 8))), some 17, none⟩, []⟩])
  (.cond (.slot 17)
   (.seq (.region false [⟨⟨.mv (.slot 8), some 18, none⟩, []⟩,
     ⟨⟨.conv .u64 (.slot 18), some 19, none⟩, []⟩,
     ⟨⟨.alloc [(.int .u64 (.ofNat 0))], some 9, none⟩, []⟩,
     ⟨⟨.store 1 (.slot 9) (.slot 19), none, none⟩, []⟩])
   (.seq (.region false [⟨⟨.mv (.slot 8), some 20, none⟩, []⟩,
     ⟨⟨.call (.const (.func 99 [] [])) [(.slot 20)], some 21, none⟩, []⟩,
     ⟨⟨.mv (.slot 21), some 10, none⟩, []⟩])
   (.seq (.region false [⟨⟨.mv (.slot 1), some 22, none⟩, []⟩,
     ⟨⟨.mv (.slot 8), some 23, none⟩, []⟩,
     ⟨⟨.bin .quo 3 .num (.slot 23) (.const (.int .i64 (.ofNat 4))), some 24, none⟩, []⟩,
     ⟨⟨.bin .mul 3 .num (.slot 24) (.const (.int .i64 (.ofNat 2))), some 25, none⟩, []⟩,
     ⟨⟨.bin .add 3 .num (.slot 22) (.slot 25), some 26, none⟩, []⟩,
     ⟨⟨.bin .sub 3 .num (.slot 26) (.const (.int .i64 (.ofNat 1))), some 27, none⟩, []⟩,
     ⟨⟨.mv (.slot 27), some 11, none⟩, []⟩])
   (.block 0 (.loop (.seq (.seq (.region false [⟨⟨.mv (.slot 11), some 28, none⟩, []⟩,
      ⟨⟨.mv (.slot 1), some 29, none⟩, []⟩,
      ⟨⟨.mv (.slot 8), some 30, none⟩, []⟩,
      ⟨⟨.bin .quo 3 .num (.slot 30) (.const (.int .i64 (.ofNat 4))), some 31, none⟩, []⟩,
      ⟨⟨.bin .mul 3 .num (.slot 31) (.const (.int .i64 (.ofNat 2))), some 32, none⟩, []⟩,
      ⟨⟨.bin .add 3 .num (.slot 29) (.slot 32), some 33, none⟩, []⟩,
      ⟨⟨.bin .add 3 .num (.slot 33) (.const (.int .i64 (.ofNat 1))), some 34, none⟩, []⟩,
      ⟨⟨.bin .leq 3 .num (.slot 28) (.slot 34), some 35, none⟩, []⟩])
    (.cond (.slot 35)
     .skip
     (.exit 0)))
    (.seq (.block 1 (.seq (.region false [⟨⟨.call (.const (.func 100 [] [])) [(.slot 9)], some 38, none⟩, []⟩,
      ⟨⟨.mv (.slot 10), some 39, none⟩, []⟩,
      ⟨⟨.bin .sub 124 .num (.slot 39) (.const (.int .u64 (.ofNat 1))), some 40, none⟩, []⟩,
      ⟨⟨.bin .and 124 .num (.slot 38) (.slot 40), some 41, none⟩, []⟩,
      ⟨⟨.conv .i64 (.slot 41), some 42, none⟩, []⟩,
      ⟨⟨.mv (.slot 42), some 12, none⟩, []⟩])
    (.seq (.seq (.region false [⟨⟨.mv (.slot 12), some 43, none⟩, []⟩,
      ⟨⟨.mv (.slot 8), some 44, none⟩, []⟩,
      ⟨⟨.bin .geq 3 .num (.slot 43) (.slot 44), some 45, none⟩, []⟩])
    (.cond (.slot 45)
     (.region false [⟨⟨.mv (.slot 12), some 46, none⟩, []⟩,
       ⟨⟨.mv (.slot 8), some 47, none⟩, []⟩,
       ⟨⟨.bin .sub 3 .num (.slot 46) (.slot 47), some 48, none⟩, []⟩,
       ⟨⟨.mv (.slot 48), some 12, none⟩, []⟩])
     .skip))
    (.region true [⟨⟨.mv (.slot 0), some 49, none⟩, []⟩,
      ⟨⟨.mv (.slot 11), some 50, none⟩, []⟩,
      ⟨⟨.mv (.slot 0), some 51, none⟩, []⟩,
      ⟨⟨.mv (.slot 1), some 52, none⟩, []⟩,
      ⟨⟨.mv (.slot 12), some 53, none⟩, []⟩,
      ⟨⟨.bin .add 3 .num (.slot 52) (.slot 53), some 54, none⟩, []⟩,
      ⟨⟨.mv (.slot 0), some 55, none⟩, []⟩,
      ⟨⟨.mv (.slot 1), some 56, none⟩, []⟩,
      ⟨⟨.mv (.slot 12), some 57, none⟩, []⟩,
      ⟨⟨.bin .add 3 .num (.slot 56) (.slot 57), some 58, none⟩, []⟩,
      ⟨⟨.iaddr 1 (.slot 55) (.slot 58), some 59, none⟩, []⟩,
      ⟨⟨.load false 1 (.slot 59), some 60, none⟩, []⟩,
      ⟨⟨.mv (.slot 0), some 61, none⟩, []⟩,
      ⟨⟨.mv (.slot 11), some 62, none⟩, []⟩,
      ⟨⟨.iaddr 1 (.slot 61) (.slot 62), some 63, none⟩, []⟩,
      ⟨⟨.load false 1 (.slot 63), some 64, none⟩, []⟩,
      ⟨⟨.iaddr 1 (.slot 49) (.slot 50), some 65, none⟩, []⟩,
      ⟨⟨.store 1 (.slot 65) (.slot 60), none, none⟩, []⟩,
      ⟨⟨.iaddr 1 (.slot 51) (.slot 54), some 66, none⟩, []⟩,
      ⟨⟨.store 1 (.slot 66) (.slot 64), none, none⟩, []⟩]))))
    (.region false [⟨⟨.mv (.slot 11), some 36, none⟩, []⟩,
      ⟨⟨.bin .add 3 .num (.slot 36) (.const (.int .i64 (.ofNat 1))), some 37, none⟩, []⟩,
      ⟨⟨.mv (.slot 37), some 11, none⟩, []⟩]))))))))
   .skip))),
  []⟩
theorem xf126_ok : compFunc Tryz.prog Tryz.f126 = some xf126 := by kernel_rfl
/-- slices.choosePivotCmpFunc[threshing/api.Lit] -/
def xf127 : XFunc := ⟨(.seq (.region false [⟨⟨.mv (.const (.int .i64 (.ofNat 0))), some 8, none⟩, []⟩,
    ⟨⟨.mv (.const (.int .i64 (.ofNat 0))), some 9, none⟩, []⟩])
  (.seq (.region false [⟨⟨.mv (.slot 2), some 15, none⟩, []⟩,
    ⟨⟨.mv (.slot 1), some 16, none⟩, []⟩,
    ⟨⟨.bin .sub 3 .num (.slot 15) (.slot 16), some 17, none⟩, []⟩,
    ⟨⟨.mv (.slot 17), some 10, none⟩, []⟩])
  (.seq (.region false [⟨⟨.alloc [(.int .i64 (.ofNat 0))], some 11, none⟩, []⟩])
  (.seq (.region false [⟨⟨.mv (.slot 1), some 18, none⟩, []⟩,
    ⟨⟨.mv (.slot 10), some 19, none⟩, []⟩,
    ⟨⟨.bin .quo 3 .num (.slot 19) (.const (.int .i64 (.ofNat 4))), some 20, none⟩, []⟩,
    ⟨⟨.bin .mul 3 .num (.slot 20) (.const (.int .i64 (.ofNat 1))), some 21, none⟩, []⟩,
    ⟨⟨.bin .add 3 .num (.slot 18) (.slot 21), some 22, none⟩, []⟩,
    ⟨⟨.mv (.slot 22), some 12, none⟩, []⟩])
  (.seq (.region false [⟨⟨.mv (.slot 1), some 23, none⟩, []⟩,
    ⟨⟨.mv (.slot 10), some 24, none⟩, []⟩,
    ⟨⟨.bin .quo 3 .num (.slot 24) (.const (.int .i64 (.ofNat 4))), some 25, none⟩, []⟩,
    ⟨⟨.bin .mul 3 .num (.slot 25) (.const (.int .i64 (.ofNat 2))), some 26, none⟩, []⟩,
    ⟨⟨.bin .add 3 .num (.slot 23) (.slot 26), some 27, none⟩, []⟩,
    ⟨⟨.mv (.slot 27), some 13, none⟩, []⟩])
  (.seq (.region false [⟨⟨.mv (.slot 1), some 28, none⟩, []⟩,
    ⟨⟨.mv (.slot 10), some 29, none⟩, []⟩,
    ⟨⟨.bin .quo 3 .num (.slot 29) (.const (.int .i64 (.ofNat 4))), some 30, none⟩, []⟩,
    ⟨⟨.bin .mul 3 .num (.slot 30) (.const (.int .i64 (.ofNat 3))), some 31, none⟩, []⟩,
    ⟨⟨.bin .add 3 .num (.slot 28) (.slot 31), some 32, none⟩, []⟩,
    ⟨⟨.mv (.slot 32), some 14, none⟩, []⟩])
  (.seq (.seq (.region false [⟨⟨.mv (.slot 10), some 33, none⟩, []⟩,
    ⟨⟨.bin .geq 3 .num (.slot 33) (.const (.int .i64 (.ofNat 8))), some 34, none⟩, []⟩])
  (.cond (.slot 34)
   (.seq (.seq (.region false [⟨⟨.mv (.slot 10), some 35, none⟩, []⟩,
     ⟨⟨.bin .geq 3 .num (.slot 35) (.const (.int .i64 (.ofNat 50))), some 36, none⟩, []⟩])
   (.cond (.slot 36)
    (.seq (.region false [⟨⟨.mv (.slot 0), some 37, none⟩, []⟩,
      ⟨⟨.mv (.slot 12), some 38, none⟩, []⟩,
      ⟨⟨.mv (.slot 3), some 39, none⟩, []⟩,
      ⟨⟨.call (.const (.func 135 [] [])) [(.slot 37), (.slot 38), (.slot 11), (.slot 39)], some 40, none⟩, []⟩,
      ⟨⟨.mv (.slot 40), some 12, none⟩, []⟩])
    (.seq (.region false [⟨⟨.mv (.slot 0), some 41, none⟩, []⟩,
      ⟨⟨.mv (.slot 13), some 42, none⟩, []⟩,
      ⟨⟨.mv (.slot 3), some 43, none⟩, []⟩,
      ⟨⟨.call (.const (.func 135 [] [])) [(.slot 41), (.slot 42), (.slot 11), (.slot 43)], some 44, none⟩, []⟩,
      ⟨⟨.mv (.slot 44), some 13, none⟩, []⟩])
    (.region false [⟨⟨.mv (.slot 0), some 45, none⟩, []⟩,
      ⟨⟨.mv (.slot 14), some 46, none⟩, []⟩,
      ⟨⟨.mv (.slot 3), some 47, none⟩, []⟩,
      ⟨⟨.call (.const (.func 135 [] [])) [(.slot 45), (.slot 46), (.slot 11), (.slot 47)], some 48, none⟩, []⟩,
      ⟨⟨.mv (.slot 48), some 14, none⟩, []⟩])))
    .skip))
   (.region false [⟨⟨.mv (.slot 0), some 49, none⟩, []⟩,
     ⟨⟨.mv (.slot 12), some 50, none⟩, []⟩,
     ⟨⟨.mv (.slot 13), some 51, none⟩, []⟩,
     ⟨⟨.mv (.slot 14), some 52, none⟩, []⟩,
     ⟨⟨.mv (.slot 3), some 53, none⟩, []⟩,
     ⟨⟨.call (.const (.func 136 [] [])) [(.slot 49), (.slot 50), (.slot 51), (.slot 52), (.slot 11), (.slot 53)], some 54, none⟩, []⟩,
     ⟨⟨.mv (.slot 54), some 13, none⟩, []⟩]))
   .skip))
  (.seq (.region false [⟨⟨.load false 1 (.slot 11), some 55, none⟩, []⟩])
  (.block 0 (.seq (.region false [⟨⟨.bin .eql 3 .num (.slot 55) (.const (.int .i64 (.ofNat 0))), some 58, none⟩, []⟩,
    ⟨⟨.mv (.slot 58), some 57, none⟩, []⟩])
  (.cond (.slot 57)
   (.seq (.region false [⟨⟨.mv (.slot 13), some 59, none⟩, []⟩,
     ⟨⟨.mv (.slot 59), some 8, none⟩, []⟩,
     ⟨⟨.mv (.const (.int .i64 (.ofNat 1))), some 9, none⟩, []⟩])
   .ret)
   (.seq (.region false [⟨⟨.bin .eql 3 .num (.slot 55) (.const (.int .i64 (.ofNat 12))), some 61, none⟩, []⟩,
     ⟨⟨.mv (.slot 61), some 60, none⟩, []⟩])
   (.cond (.slot 60)
    (.seq (.region false [⟨⟨.mv (.slot 13), some 62, none⟩, []⟩,
      ⟨⟨.mv (.slot 62), some 8, none⟩, []⟩,
      ⟨⟨.mv (.const (.int .i64 (.ofNat 2))), some 9, none⟩, []⟩])
    .ret)
    (.seq (.region false [⟨⟨.mv (.slot 13), some 56, none⟩, []⟩,
      ⟨⟨.mv (.slot 56), some 8, none⟩, []⟩,
      ⟨⟨.mv (.const (.int .i64 (.ofNat 0))), some 9, none⟩, []⟩])
    .ret)))))))))))))),
  [.tmp 8, .tmp 9]⟩
theorem xf127_ok : compFunc Tryz.prog Tryz.f127 = some xf127 := by kernel_rfl
/-- slices.reverseRangeCmpFunc[threshing/api.Lit] -/
def xf128 : XFunc := ⟨(.seq (.region false [⟨⟨.mv (.slot 1), some 10, none⟩, []⟩,
    ⟨⟨.mv (.slot 10), some 8, none⟩, []⟩])
  (.seq (.region false [⟨⟨.mv (.slot 2), some 11, none⟩, []⟩,
    ⟨⟨.bin .sub 3 .num (.slot 11) (.const (.int .i64 (.ofNat 1))), some 12, none⟩, []⟩,
    ⟨⟨.mv (.slot 12), some 9, none⟩, []⟩])
  (.block 0 (.loop (.seq (.seq (.region false [⟨⟨.mv (.slot 8), some 13, none⟩, []⟩,
     ⟨⟨.mv (.slot 9), some 14, none⟩, []⟩,
     ⟨⟨.bin .lss 3 .num (.slot 13) (.slot 14), some 15, none⟩, []⟩])
   (.cond (.slot 15)
    .skip
    (.exit 0)))
   (.block 1 (.seq (.region true [⟨⟨.mv (.slot 0), some 16, none⟩, []⟩,
     ⟨⟨.mv (.slot 8), some 17, none⟩, []⟩,
     ⟨⟨.mv (.slot 0), some 18, none⟩, []⟩,
     ⟨⟨.mv (.slot 9), some 19, none⟩, []⟩,
     ⟨⟨.mv (.slot 0), some 20, none⟩, []⟩,
     ⟨⟨.mv (.slot 9), some 21, none⟩, []⟩,
     ⟨⟨.iaddr 1 (.slot 20) (.slot 21), some 22, none⟩, []⟩,
     ⟨⟨.load false 1 (.slot 22), some 23, none⟩, []⟩,
     ⟨⟨.mv (.slot 0), some 24, none⟩, []⟩,
     ⟨⟨.mv (.slot 8), some 25, none⟩, []⟩,
     ⟨⟨.iaddr 1 (.slot 24) (.slot 25), some 26, none⟩, []⟩,
     ⟨⟨.load false 1 (.slot 26), some 27, none⟩, []⟩,
     ⟨⟨.iaddr 1 (.slot 16) (.slot 17), some 28, none⟩, []⟩,
     ⟨⟨.store 1 (.slot 28) (.slot 23), none, none⟩, []⟩,
     ⟨⟨.iaddr 1 (.slot 18) (.slot 19), some 29, none⟩, []⟩,
     ⟨⟨.store 1 (.slot 29) (.slot 27), none, none⟩, []⟩])
   (.seq (.region false [⟨⟨.mv (.slot 8), some 30, none⟩, []⟩,
     ⟨⟨.bin .add 3 .num (.slot 30) (.const (.int .i64 (.ofNat 1))), some 31, none⟩, []⟩,
     ⟨⟨.mv (.slot 31), some 8, none⟩, []⟩])
   (.region false [⟨⟨.mv (.slot 9), some 32, none⟩, []⟩,
     ⟨⟨.bin .sub 3 .num (.slot 32) (.const (.int .i64 (.ofNat 1))), some 33, none⟩, []⟩,
     ⟨⟨.mv (.slot 33), some 9, none⟩, []⟩]))))))))),
  []⟩
theorem xf128_ok : compFunc Tryz.prog Tryz.f128 = some xf128 := by kernel_rfl
/-- slices.partialInsertionSortCmpFunc[threshing/api.Lit] -/
def xf129 : XFunc := ⟨(.seq (.region false [⟨⟨.mv (.const (.bool false)), some 8, none⟩, []⟩])
  (.seq (.region false [⟨⟨.mv (.slot 1), some 13, none⟩, []⟩,
    ⟨⟨.bin .add 3 .num (.slot 13) (.const (.int .i64 (.ofNat 1))), some 14, none⟩, []⟩,
    ⟨⟨.mv (.slot 14), some 9, none⟩, []⟩])
  (.seq (.seq (.region false [⟨⟨.mv (.const (.int .i64 (.ofNat 0))), some 10, none⟩, []⟩])
  (.block 0 (.loop (.seq (.seq (.region false [⟨⟨.mv (.slot 10), some 15, none⟩, []⟩,
     ⟨⟨.bin .lss 3 .num (.slot 15) (.const (.int .i64 (.ofNat 5))), some 16, none⟩, []⟩])
   (.cond (.slot 16)
    .skip
    (.exit 0)))
   (.seq (.block 1 (.seq (.block 2 (.loop (.seq (.seq (.region true [⟨⟨.mv (.slot 9), some 19, none⟩, []⟩,
      ⟨⟨.mv (.slot 2), some 20, none⟩, []⟩,
      ⟨⟨.bin .lss 3 .num (.slot 19) (.slot 20), some 21, none⟩, []⟩,
      ⟨⟨.mv (.slot 21), some 22, none⟩, []⟩,
      ⟨⟨.mv (.slot 3), some 23, some (22, true)⟩, []⟩,
      ⟨⟨.mv (.slot 0), some 24, some (22, true)⟩, []⟩,
      ⟨⟨.mv (.slot 9), some 25, some (22, true)⟩, []⟩,
      ⟨⟨.iaddr 1 (.slot 24) (.slot 25), some 26, some (22, true)⟩, []⟩,
      ⟨⟨.load false 1 (.slot 26), some 27, some (22, true)⟩, []⟩,
      ⟨⟨.mv (.slot 0), some 28, some (22, true)⟩, []⟩,
      ⟨⟨.mv (.slot 9), some 29, some (22, true)⟩, []⟩,
      ⟨⟨.bin .sub 3 .num (.slot 29) (.const (.int .i64 (.ofNat 1))), some 30, some (22, true)⟩, []⟩,
      ⟨⟨.iaddr 1 (.slot 28) (.slot 30), some 31, some (22, true)⟩, []⟩,
      ⟨⟨.load false 1 (.slot 31), some 32, some (22, true)⟩, []⟩,
      ⟨⟨.call (.slot 23) [(.slot 27), (.slot 32)], some 33, some (22, true)⟩, []⟩,
      ⟨⟨.bin .lss 3 .num (.slot 33) (.const (.int .i64 (.ofNat 0))), some 34, some (22, true)⟩, []⟩,
      ⟨⟨.un .not (.slot 34), some 35, some (22, true)⟩, []⟩,
      ⟨⟨.pick (.slot 22) (.slot 35) (.const (.bool false)), some 36, none⟩, []⟩])
    (.cond (.slot 36)
     .skip
     (.exit 2)))
    (.block 3 (.region false [⟨⟨.mv (.slot 9), some 37, none⟩, []⟩,
      ⟨⟨.bin .add 3 .num (.slot 37) (.const (.int .i64 (.ofNat 1))), some 38, none⟩, []⟩,
      ⟨⟨.mv (.slot 38), some 9, none⟩, []⟩])))))
   (.seq (.seq (.region false [⟨⟨.mv (.slot 9), some 39, none⟩, []⟩,
     ⟨⟨.mv (.slot 2), some 40, none⟩, []⟩,
     ⟨⟨.bin .eql 3 .num (.slot 39) (.slot 40), some 41, none⟩, []⟩])
   (.cond (.slot 41)
    (.seq (.region false [⟨⟨.mv (.const (.bool true)), some 8, none⟩, []⟩])
    .ret)
    .skip))
   (.seq (.seq (.region false [⟨⟨.mv (.slot 2), some 42, none⟩, []⟩,
     ⟨⟨.mv (.slot 1), some 43, none⟩, []⟩,
     ⟨⟨.bin .sub 3 .num (.slot 42) (.slot 43), some 44, none⟩, []⟩,
     ⟨⟨.bin .lss 3 .num (.slot 44) (.const (.int .i64 (.ofNat 50))), some 45, none⟩, []⟩])
   (.cond (.slot 45)
    (.seq (.region false [⟨⟨.mv (.const (.bool false)), some 8, none⟩, []⟩])
    .ret)
    .skip))
   (.seq (.region true [⟨⟨.mv (.slot 0), some 46, none⟩, []⟩,
     ⟨⟨.mv (.slot 9), some 47, none⟩, []⟩,
     ⟨⟨.mv (.slot 0), some 48, none⟩, []⟩,
     ⟨⟨.mv (.slot 9), some 49, none⟩, []⟩,
     ⟨⟨.bin .sub 3 .num (.slot 49) (.const (.int .i64 (.ofNat 1))), some 50, none⟩, []⟩,
     ⟨⟨.mv (.slot 0), some 51, none⟩, []⟩,
     ⟨⟨.mv (.slot 9), some 52, none⟩, []⟩,
     ⟨⟨.bin .sub 3 .num (.slot 52) (.const (.int .i64 (.ofNat 1))), some 53, none⟩, []⟩,
     ⟨⟨.iaddr 1 (.slot 51) (.slot 53), some 54, none⟩, []⟩,
     ⟨⟨.load false 1 (.slot 54), some 55, none⟩, []⟩,
     ⟨⟨.mv (.slot 0), some 56, none⟩, []⟩,
     ⟨⟨.mv (.slot 9), some 57, none⟩, []⟩,
     ⟨⟨.iaddr 1 (.slot 56) (.slot 57), some 58, none⟩, []⟩,
     ⟨⟨.load false 1 (.slot 58), some 59, none⟩, []⟩,
     ⟨⟨.iaddr 1 (.slot 46) (.slot 47), some 60, none⟩, []⟩,
     ⟨⟨.store 1 (.slot 60) (.slot 55), none, none⟩, []⟩,
     ⟨⟨.iaddr 1 (.slot 48) (.slot 50), some 61, none⟩, []⟩,
     ⟨⟨.store 1 (.slot 61) (.slot 59), none, none⟩, []⟩])
   (.seq (.seq (.region false [⟨⟨.mv (.slot 9), some 62, none⟩, []⟩,
     ⟨⟨.mv (.slot 1), some 63, none⟩, []⟩,
     ⟨⟨.bin .sub 3 .num (.slot 62) (.slot 63), some 64, none⟩, []⟩,
     ⟨⟨.bin .geq 3 .num (.slot 64) (.const (.int .i64 (.ofNat 2))), some 65, none⟩, []⟩])
   (.cond (.slot 65)
    (.seq (.region false [⟨⟨.mv (.slot 9), some 66, none⟩, []⟩,
      ⟨⟨.bin .sub 3 .num (.slot 66) (.const (.int .i64 (.ofNat 1))), some 67, none⟩, []⟩,
      ⟨⟨.mv (.slot 67), some 11, none⟩, []⟩])
    (.block 4 (.loop (.seq (.seq (.region false [⟨⟨.mv (.slot 11), some 68, none⟩, []⟩,
       ⟨⟨.bin .geq 3 .num (.slot 68) (.const (.int .i64 (.ofNat 1))), some 69, none⟩, []⟩])
     (.cond (.slot 69)
      .skip
      (.exit 4)))
     (.seq (.block 5 (.seq (.seq (.region true [⟨⟨.mv (.slot 3), some 72, none⟩, []⟩,
       ⟨⟨.mv (.slot 0), some 73, none⟩, []⟩,
       ⟨⟨.mv (.slot 11), some 74, none⟩, []⟩,
       ⟨⟨.iaddr 1 (.slot 73) (.slot 74), some 75, none⟩, []⟩,
       ⟨⟨.load false 1 (.slot 75), some 76, none⟩, []⟩,
       ⟨⟨.mv (.slot 0), some 77, none⟩, []⟩,
       ⟨⟨.mv (.slot 11), some 78, none⟩, []⟩,
       ⟨⟨.bin .sub 3 .num (.slot 78) (.const (.int .i64 (.ofNat 1))), some 79, none⟩, []⟩,
       ⟨⟨.iaddr 1 (.slot 77) (.slot 79), some 80, none⟩, []⟩,
       ⟨⟨.load false 1 (.slot 80), some 81, none⟩, []⟩,
       ⟨⟨.call (.slot 72) [(.slot 76), (.slot 81)], some 82, none⟩, []⟩,
       ⟨⟨.bin .lss 3 .num (.slot 82) (.const (.int .i64 (.ofNat 0))), some 83, none⟩, []⟩,
       ⟨⟨.un .not (.slot 83), some 84, none⟩, []⟩])
     (.cond (.slot 84)
      (.exit 4)
      .skip))
     (.region true [⟨⟨.mv (.slot 0), some 85, none⟩, []⟩,
       ⟨⟨.mv (.slot 11), some 86, none⟩, []⟩,
       ⟨⟨.mv (.slot 0), some 87, none⟩, []⟩,
       ⟨⟨.mv (.slot 11), some 88, none⟩, []⟩,
       ⟨⟨.bin .sub 3 .num (.slot 88) (.const (.int .i64 (.ofNat 1))), some 89, none⟩, []⟩,
       ⟨⟨.mv (.slot 0), some 90, none⟩, []⟩,
       ⟨⟨.mv (.slot 11), some 91, none⟩, []⟩,
       ⟨⟨.bin .sub 3 .num (.slot 91) (.const (.int .i64 (.ofNat 1))), some 92, none⟩, []⟩,
       ⟨⟨.iaddr 1 (.slot 90) (.slot 92), some 93, none⟩, []⟩,
       ⟨⟨.load false 1 (.slot 93), some 94, none⟩, []⟩,
       ⟨⟨.mv (.slot 0), some 95, none⟩, []⟩,
       ⟨⟨.mv (.slot 11), some 96, none⟩, []⟩,
       ⟨⟨.iaddr 1 (.slot 95) (.slot 96), some 97, none⟩, []⟩,
       ⟨⟨.load false 1 (.slot 97), some 98, none⟩, []⟩,
       ⟨⟨.iaddr 1 (.slot 85) (.slot 86), some 99, none⟩, []⟩,
       ⟨⟨.store 1 (.slot 99) (.slot 94), none, none⟩, []⟩,
       ⟨⟨.iaddr 1 (.slot 87) (.slot 89), some 100, none⟩, []⟩,
       ⟨⟨.store 1 (.slot 100) (.slot 98), none, none⟩, []⟩])))
     (.region false [⟨⟨.mv (.slot 11), some 70, none⟩, []⟩,
       ⟨⟨.bin .sub 3 .num (.slot 70) (.const (.int .i64 (.ofNat 1))), some 71, none⟩, []⟩,
       ⟨⟨.mv (.slot 71), some 11, none⟩, []⟩]))))))
    .skip))
   (.seq (.region false [⟨⟨.mv (.slot 2), some 101, none⟩, []⟩,
     ⟨⟨.mv (.slot 9), some 102, none⟩, []⟩,
     ⟨⟨.bin .sub 3 .num (.slot 101) (.slot 102), some 103, none⟩, []⟩,
     ⟨⟨.bin .geq 3 .num (.slot 103) (.const (.int .i64 (.ofNat 2))), some 104, none⟩, []⟩])
   (.cond (.slot 104)
    (.seq (.region false [⟨⟨.mv (.slot 9), some 105, none⟩, []⟩,
      ⟨⟨.bin .add 3 .num (.slot 105) (.const (.int .i64 (.ofNat 1))), some 106, none⟩, []⟩,
      ⟨⟨.mv (.slot 106), some 12, none⟩, []⟩])
    (.block 6 (.loop (.seq (.seq (.region false [⟨⟨.mv (.slot 12), some 107, none⟩, []⟩,
       ⟨⟨.mv (.slot 2), some 108, none⟩, []⟩,
       ⟨⟨.bin .lss 3 .num (.slot 107) (.slot 108), some 109, none⟩, []⟩])
     (.cond (.slot 109)
      .skip
      (.exit 6)))
     (.seq (.block 7 (.seq (.seq (.region true [⟨⟨.mv (.slot 3), some 112, none⟩, []⟩,
       ⟨⟨.mv (.slot 0), some 113, none⟩, []⟩,
       ⟨⟨.mv (.slot 12), some 114, none⟩, []⟩,
       ⟨⟨.iaddr 1 (.slot 113) (.slot 114), some 115, none⟩, []⟩,
       ⟨⟨.load false 1 (.slot 115), some 116, none⟩, []⟩,
       ⟨⟨.mv (.slot 0), some 117, none⟩, []⟩,
       ⟨⟨.mv (.slot 12), some 118, none⟩, []⟩,
       ⟨⟨.bin .sub 3 .num (.slot 118) (.const (.int .i64 (.ofNat 1))), some 119, none⟩, []⟩,
       ⟨⟨.iaddr 1 (.slot 117) (.slot 119), some 120, none⟩, []⟩,
       ⟨⟨.load false 1 (.slot 120), some 121, none⟩, []⟩,
       ⟨⟨.call (.slot 112) [(.slot 116), (.slot 121)], some 122, none⟩, []⟩,
       ⟨⟨.bin .lss 3 .num (.slot 122) (.const (.int .i64 (.ofNat 0))), some 123, none⟩, []⟩,
       ⟨⟨.un .not (.slot 123), some 124, none⟩, []⟩])
     (.cond (.slot 124)
      (.exit 6)
      .skip))
     (.region true [⟨⟨.mv (.slot 0), some 125, none⟩, []⟩,
       ⟨⟨.mv (.slot 12), some 126, none⟩, []⟩,
       ⟨⟨.mv (.slot 0), some 127, none⟩, []⟩,
       ⟨⟨.mv (.slot 12), some 128, none⟩, []⟩,
       ⟨⟨.bin .sub 3 .num (.slot 128) (.const (.int .i64 (.ofNat 1))), some 129, none⟩, []⟩,
       ⟨⟨.mv (.slot 0), some 130, none⟩, []⟩,
       ⟨⟨.mv (.slot 12), some 131, none⟩, []⟩,
       ⟨⟨.bin .sub 3 .num (.slot 131) (.const (.int .i64 (.ofNat 1))), some 132, none⟩, []⟩,
       ⟨⟨.iaddr 1 (.slot 130) (.slot 132), some 133, none⟩, []⟩,
       ⟨⟨.load false 1 (.slot 133), some 134, none⟩, []⟩,
       ⟨⟨.mv (.slot 0), some 135, none⟩, []⟩,
       ⟨⟨.mv (.slot 12), some 136, none⟩, []⟩,
       ⟨⟨.iaddr 1 (.slot 135) (.slot 136), some 137, none⟩, []⟩,
       ⟨⟨.load false 1 (.slot 137), some 138, none⟩, []⟩,
       ⟨⟨.iaddr 1 (.slot 125) (.slot 126), some 139, none⟩, []⟩,
       ⟨⟨.store 1 (.slot 139) (.slot 134), none, none⟩, []⟩,
       ⟨⟨.iaddr 1 (.slot 127) (.slot 129), some 140, none⟩, []⟩,
       ⟨⟨.store 1 (.slot 140) (.slot 138), none, none⟩, []⟩])))
     (.region false [⟨⟨.mv (.slot 12), some 110, none⟩, []⟩,
       ⟨⟨.bin .add 3 .num (.slot 110) (.const (.int .i64 (.ofNat 1))), some 111, none⟩, []⟩,
       ⟨⟨.mv (.slot 111), some 12, none⟩, []⟩]))))))
    .skip))))))))
   (.region false [⟨⟨.mv (.slot 10), some 17, none⟩, []⟩,
     ⟨⟨.bin .add 3 .num (.slot 17) (.const (.int .i64 (.ofNat 1))), some 18, none⟩, []⟩,
     ⟨⟨.mv (.slot 18), some 10, none⟩, []⟩]))))))
  (.seq (.region false [⟨⟨.mv (.const (.bool false)), some 8, none⟩, []⟩])
  .ret)))),
  [.tmp 8]⟩
theorem xf129_ok : compFunc Tryz.prog Tryz.f129 = some xf129 := by kernel_rfl
end Go.Proofs.YtdceckhkmfbpmaaGreat

/- The functions of the program in X's code, printed by a program of ours; each is what the program's own is turned to. -/
import Derived.Test.YteeidjmjeefpnaaProg
import Derived.Test.YteeidjmjeefpnaaXc
import Derived.KernelRfl
namespace Go.Proofs.Yteeidjmjeefpnaa
open Go.Xr
/-- (*threshing/threshingref06.Checker).groups -/
def xf66 : XFunc := ⟨(.seq (.region false [⟨⟨.mv (.const (.int .i64 (.ofNat 0))), some 8, none⟩, []⟩])
  (.seq (.seq (.region false [⟨⟨.mv (.slot 1), some 19, none⟩, []⟩,
    ⟨⟨.len .slice (.slot 19), some 20, none⟩, []⟩,
    ⟨⟨.bin .eql 3 .num (.slot 20) (.const (.int .i64 (.ofNat 0))), some 21, none⟩, []⟩])
  (.cond (.slot 21)
   (.seq (.region false [⟨⟨.mv (.const (.int .i64 (.ofNat 61))), some 8, none⟩, []⟩])
   .ret)
   .skip))
  (.seq (.region false [⟨⟨.mv (.slot 1), some 22, none⟩, []⟩,
    ⟨⟨.iaddr 1 (.slot 22) (.const (.int .i64 (.ofNat 0))), some 23, none⟩, []⟩,
    ⟨⟨.load false 1 (.slot 23), some 24, none⟩, []⟩,
    ⟨⟨.mv (.slot 24), some 9, none⟩, []⟩])
  (.seq (.region false [⟨⟨.mv (.const .nils), some 10, none⟩, []⟩])
  (.seq (.seq (.region false [⟨⟨.mv (.const (.int .i64 (.ofNat 0))), some 11, none⟩, []⟩])
  (.block 0 (.loop (.seq (.seq (.region false [⟨⟨.mv (.slot 11), some 25, none⟩, []⟩,
     ⟨⟨.mv (.slot 3), some 26, none⟩, []⟩,
     ⟨⟨.len .slice (.slot 26), some 27, none⟩, []⟩,
     ⟨⟨.bin .lss 3 .num (.slot 25) (.slot 27), some 28, none⟩, []⟩])
   (.cond (.slot 28)
    .skip
    (.exit 0)))
   (.block 1 (.seq (.region false [⟨⟨.mv (.slot 3), some 29, none⟩, []⟩,
     ⟨⟨.mv (.slot 11), some 30, none⟩, []⟩,
     ⟨⟨.iaddr 1 (.slot 29) (.slot 30), some 31, none⟩, []⟩,
     ⟨⟨.load false 1 (.slot 31), some 32, none⟩, []⟩,
     ⟨⟨.un .neg (.slot 32), some 33, none⟩, []⟩,
     ⟨⟨.mv (.slot 33), some 12, none⟩, []⟩])
   (.seq (.region false [⟨⟨.mv (.slot 3), some 34, none⟩, []⟩,
     ⟨⟨.mv (.slot 11), some 35, none⟩, []⟩,
     ⟨⟨.bin .add 3 .num (.slot 35) (.const (.int .i64 (.ofNat 1))), some 36, none⟩, []⟩,
     ⟨⟨.slc 1 (.slot 34) (some (.slot 36)) none none, some 37, none⟩, []⟩,
     ⟨⟨.call (.const (.func 64 [] [])) [(.slot 37)], some 38, none⟩, []⟩,
     ⟨⟨.mv (.slot 38), some 13, none⟩, []⟩])
   (.seq (.region false [⟨⟨.mv (.slot 0), some 39, none⟩, []⟩,
     ⟨⟨.mv (.slot 12), some 40, none⟩, []⟩,
     ⟨⟨.call (.const (.func 62 [] [])) [(.slot 39), (.slot 40)], some 41, none⟩, []⟩,
     ⟨⟨.mv (.slot 41), some 14, none⟩, []⟩])
   (.seq (.seq (.region false [⟨⟨.mv (.slot 14), some 42, none⟩, []⟩,
     ⟨⟨.bin .lss 3 .num (.slot 42) (.const (.int .i64 (.ofNat 0))), some 43, none⟩, []⟩,
     ⟨⟨.mv (.slot 43), some 44, none⟩, []⟩,
     ⟨⟨.mv (.slot 0), some 45, some (44, false)⟩, []⟩,
     ⟨⟨.nilCheck (.slot 45), some 46, some (44, false)⟩, []⟩,
     ⟨⟨.faddr 0 (.slot 46), some 47, some (44, false)⟩, []⟩,
     ⟨⟨.load false 1 (.slot 47), some 48, some (44, false)⟩, []⟩,
     ⟨⟨.mv (.slot 14), some 49, some (44, false)⟩, []⟩,
     ⟨⟨.iaddr 2 (.slot 48) (.slot 49), some 50, some (44, false)⟩, []⟩,
     ⟨⟨.faddr 1 (.slot 50), some 51, some (44, false)⟩, []⟩,
     ⟨⟨.load false 1 (.slot 51), some 52, some (44, false)⟩, []⟩,
     ⟨⟨.mv (.slot 9), some 53, some (44, false)⟩, []⟩,
     ⟨⟨.un .neg (.slot 53), some 54, some (44, false)⟩, []⟩,
     ⟨⟨.call (.const (.func 40 [] [])) [(.slot 52), (.slot 54)], some 55, some (44, false)⟩, []⟩,
     ⟨⟨.un .not (.slot 55), some 56, some (44, false)⟩, []⟩,
     ⟨⟨.pick (.slot 44) (.const (.bool true)) (.slot 56), some 57, none⟩, []⟩,
     ⟨⟨.mv (.slot 57), some 58, none⟩, []⟩,
     ⟨⟨.mv (.slot 10), some 59, some (58, false)⟩, []⟩,
     ⟨⟨.len .slice (.slot 59), some 60, some (58, false)⟩, []⟩,
     ⟨⟨.bin .gtr 3 .num (.slot 60) (.const (.int .i64 (.ofNat 0))), some 61, some (58, false)⟩, []⟩,
     ⟨⟨.mv (.slot 61), some 62, some (58, false)⟩, []⟩,
     ⟨⟨.mv (.slot 10), some 63, some (62, true)⟩, []⟩,
     ⟨⟨.mv (.slot 10), some 64, some (62, true)⟩, []⟩,
     ⟨⟨.len .slice (.slot 64), some 65, some (62, true)⟩, []⟩,
     ⟨⟨.bin .sub 3 .num (.slot 65) (.const (.int .i64 (.ofNat 1))), some 66, some (62, true)⟩, []⟩,
     ⟨⟨.iaddr 1 (.slot 63) (.slot 66), some 67, some (62, true)⟩, []⟩,
     ⟨⟨.load false 1 (.slot 67), some 68, some (62, true)⟩, []⟩,
     ⟨⟨.mv (.slot 12), some 69, some (62, true)⟩, []⟩,
     ⟨⟨.bin .geq 2 .num (.slot 68) (.slot 69), some 70, some (62, true)⟩, []⟩,
     ⟨⟨.pick (.slot 62) (.slot 70) (.const (.bool false)), some 71, some (58, false)⟩, []⟩,
     ⟨⟨.pick (.slot 58) (.const (.bool true)) (.slot 71), some 72, none⟩, []⟩])
   (.cond (.slot 72)
    (.seq (.region false [⟨⟨.mv (.const (.int .i64 (.ofNat 60))), some 8, none⟩, []⟩])
    .ret)
    .skip))
   (.seq (.region true [⟨⟨.mv (.slot 0), some 73, none⟩, []⟩,
     ⟨⟨.mv (.slot 0), some 74, none⟩, []⟩,
     ⟨⟨.nilCheck (.slot 74), some 75, none⟩, []⟩,
     ⟨⟨.faddr 0 (.slot 75), some 76, none⟩, []⟩,
     ⟨⟨.load false 1 (.slot 76), some 77, none⟩, []⟩,
     ⟨⟨.mv (.slot 14), some 78, none⟩, []⟩,
     ⟨⟨.iaddr 2 (.slot 77) (.slot 78), some 79, none⟩, []⟩,
     ⟨⟨.faddr 1 (.slot 79), some 80, none⟩, []⟩,
     ⟨⟨.load false 1 (.slot 80), some 81, none⟩, []⟩,
     ⟨⟨.mv (.slot 9), some 82, none⟩, []⟩,
     ⟨⟨.mv (.slot 2), some 83, none⟩, []⟩,
     ⟨⟨.mv (.slot 3), some 84, none⟩, []⟩,
     ⟨⟨.mv (.slot 11), some 85, none⟩, []⟩,
     ⟨⟨.bin .add 3 .num (.slot 85) (.const (.int .i64 (.ofNat 1))), some 86, none⟩, []⟩,
     ⟨⟨.mv (.slot 11), some 87, none⟩, []⟩,
     ⟨⟨.bin .add 3 .num (.slot 87) (.const (.int .i64 (.ofNat 1))), some 88, none⟩, []⟩,
     ⟨⟨.mv (.slot 13), some 89, none⟩, []⟩,
     ⟨⟨.bin .add 3 .num (.slot 88) (.slot 89), some 90, none⟩, []⟩,
     ⟨⟨.slc 1 (.slot 84) (some (.slot 86)) (some (.slot 90)) none, some 91, none⟩, []⟩,
     ⟨⟨.call (.const (.func 82 [] [])) [(.slot 73), (.slot 81), (.slot 82), (.slot 83), (.slot 91)], some 92, none⟩, []⟩,
     ⟨⟨.mv (.slot 92), some 15, none⟩, []⟩])
   (.seq (.seq (.region false [⟨⟨.mv (.slot 15), some 93, none⟩, []⟩,
     ⟨⟨.bin .neq 28 .num (.slot 93) (.const (.int .i64 (.ofNat 0))), some 94, none⟩, []⟩])
   (.cond (.slot 94)
    (.seq (.region false [⟨⟨.mv (.slot 15), some 95, none⟩, []⟩,
      ⟨⟨.mv (.slot 95), some 8, none⟩, []⟩])
    .ret)
    .skip))
   (.seq (.region false [⟨⟨.mv (.slot 10), some 96, none⟩, []⟩,
     ⟨⟨.mv (.slot 12), some 97, none⟩, []⟩,
     ⟨⟨.bslice 1 [(.int .i64 (.ofNat 0))] [(0, 1, (.slot 97))] 1, some 98, none⟩, []⟩,
     ⟨⟨.append 1 8 (.slot 96) (.slot 98), some 99, none⟩, []⟩,
     ⟨⟨.mv (.slot 99), some 10, none⟩, []⟩])
   (.region false [⟨⟨.mv (.slot 11), some 100, none⟩, []⟩,
     ⟨⟨.bin .add 3 .num (.slot 100) (.const (.int .i64 (.ofNat 1))), some 101, none⟩, []⟩,
     ⟨⟨.mv (.slot 13), some 102, none⟩, []⟩,
     ⟨⟨.bin .add 3 .num (.slot 101) (.slot 102), some 103, none⟩, []⟩,
     ⟨⟨.mv (.slot 103), some 11, none⟩, []⟩])))))))))))))
  (.seq (.seq (.region false [⟨⟨.mv (.const (.int .i64 (.ofNat 0))), some 16, none⟩, []⟩])
  (.block 2 (.loop (.seq (.seq (.region false [⟨⟨.mv (.slot 16), some 104, none⟩, []⟩,
     ⟨⟨.mv (.slot 0), some 105, none⟩, []⟩,
     ⟨⟨.nilCheck (.slot 105), some 106, none⟩, []⟩,
     ⟨⟨.faddr 0 (.slot 106), some 107, none⟩, []⟩,
     ⟨⟨.load false 1 (.slot 107), some 108, none⟩, []⟩,
     ⟨⟨.len .slice (.slot 108), some 109, none⟩, []⟩,
     ⟨⟨.bin .lss 3 .num (.slot 104) (.slot 109), some 110, none⟩, []⟩])
   (.cond (.slot 110)
    .skip
    (.exit 2)))
   (.seq (.block 3 (.seq (.seq (.region false [⟨⟨.mv (.slot 0), some 113, none⟩, []⟩,
     ⟨⟨.nilCheck (.slot 113), some 114, none⟩, []⟩,
     ⟨⟨.faddr 0 (.slot 114), some 115, none⟩, []⟩,
     ⟨⟨.load false 1 (.slot 115), some 116, none⟩, []⟩,
     ⟨⟨.mv (.slot 16), some 117, none⟩, []⟩,
     ⟨⟨.iaddr 2 (.slot 116) (.slot 117), some 118, none⟩, []⟩,
     ⟨⟨.faddr 1 (.slot 118), some 119, none⟩, []⟩,
     ⟨⟨.load false 1 (.slot 119), some 120, none⟩, []⟩,
     ⟨⟨.mv (.slot 9), some 121, none⟩, []⟩,
     ⟨⟨.un .neg (.slot 121), some 122, none⟩, []⟩,
     ⟨⟨.call (.const (.func 40 [] [])) [(.slot 120), (.slot 122)], some 123, none⟩, []⟩,
     ⟨⟨.un .not (.slot 123), some 124, none⟩, []⟩])
   (.cond (.slot 124)
    (.exit 3)
    .skip))
   (.seq (.region false [⟨⟨.mv (.const (.bool false)), some 17, none⟩, []⟩])
   (.seq (.seq (.region false [⟨⟨.mv (.const (.int .i64 (.ofNat 0))), some 18, none⟩, []⟩])
   (.block 4 (.loop (.seq (.seq (.region false [⟨⟨.mv (.slot 18), some 125, none⟩, []⟩,
      ⟨⟨.mv (.slot 10), some 126, none⟩, []⟩,
      ⟨⟨.len .slice (.slot 126), some 127, none⟩, []⟩,
      ⟨⟨.bin .lss 3 .num (.slot 125) (.slot 127), some 128, none⟩, []⟩])
    (.cond (.slot 128)
     .skip
     (.exit 4)))
    (.seq (.block 5 (.region true [⟨⟨.mv (.slot 17), some 131, none⟩, []⟩,
      ⟨⟨.mv (.slot 131), some 132, none⟩, []⟩,
      ⟨⟨.mv (.slot 10), some 133, some (132, false)⟩, []⟩,
      ⟨⟨.mv (.slot 18), some 134, some (132, false)⟩, []⟩,
      ⟨⟨.iaddr 1 (.slot 133) (.slot 134), some 135, some (132, false)⟩, []⟩,
      ⟨⟨.load false 1 (.slot 135), some 136, some (132, false)⟩, []⟩,
      ⟨⟨.mv (.slot 0), some 137, some (132, false)⟩, []⟩,
      ⟨⟨.nilCheck (.slot 137), some 138, some (132, false)⟩, []⟩,
      ⟨⟨.faddr 0 (.slot 138), some 139, some (132, false)⟩, []⟩,
      ⟨⟨.load false 1 (.slot 139), some 140, some (132, false)⟩, []⟩,
      ⟨⟨.mv (.slot 16), some 141, some (132, false)⟩, []⟩,
      ⟨⟨.iaddr 2 (.slot 140) (.slot 141), some 142, some (132, false)⟩, []⟩,
      ⟨⟨.faddr 0 (.slot 142), some 143, some (132, false)⟩, []⟩,
      ⟨⟨.load false 1 (.slot 143), some 144, some (132, false)⟩, []⟩,
      ⟨⟨.bin .eql 2 .num (.slot 136) (.slot 144), some 145, some (132, false)⟩, []⟩,
      ⟨⟨.pick (.slot 132) (.const (.bool true)) (.slot 145), some 146, none⟩, []⟩,
      ⟨⟨.mv (.slot 146), some 17, none⟩, []⟩]))
    (.region false [⟨⟨.mv (.slot 18), some 129, none⟩, []⟩,
      ⟨⟨.bin .add 3 .num (.slot 129) (.const (.int .i64 (.ofNat 1))), some 130, none⟩, []⟩,
      ⟨⟨.mv (.slot 130), some 18, none⟩, []⟩]))))))
   (.seq (.region false [⟨⟨.mv (.slot 17), some 147, none⟩, []⟩,
     ⟨⟨.un .not (.slot 147), some 148, none⟩, []⟩])
   (.cond (.slot 148)
    (.seq (.region false [⟨⟨.mv (.const (.int .i64 (.ofNat 61))), some 8, none⟩, []⟩])
    .ret)
    .skip))))))
   (.region false [⟨⟨.mv (.slot 16), some 111, none⟩, []⟩,
     ⟨⟨.bin .add 3 .num (.slot 111) (.const (.int .i64 (.ofNat 1))), some 112, none⟩, []⟩,
     ⟨⟨.mv (.slot 112), some 16, none⟩, []⟩]))))))
  (.seq (.region false [⟨⟨.mv (.const (.int .i64 (.ofNat 0))), some 8, none⟩, []⟩])
  .ret))))))),
  [.tmp 8]⟩
theorem xf66_ok : compFunc Try.prog Try.f66 = some xf66 := by kernel_rfl
/-- (threshing/cnf.lit).variable -/
def xf67 : XFunc := ⟨(.seq (.region false [⟨⟨.mv (.const (.int .i64 (.ofNat 0))), some 2, none⟩, []⟩])
  (.seq (.seq (.region false [⟨⟨.mv (.slot 0), some 3, none⟩, []⟩,
    ⟨⟨.bin .lss 107 .num (.slot 3) (.const (.int .i32 (.ofNat 0))), some 4, none⟩, []⟩])
  (.cond (.slot 4)
   (.seq (.region false [⟨⟨.mv (.slot 0), some 5, none⟩, []⟩,
     ⟨⟨.conv .i64 (.slot 5), some 6, none⟩, []⟩,
     ⟨⟨.un .neg (.slot 6), some 7, none⟩, []⟩,
     ⟨⟨.mv (.slot 7), some 2, none⟩, []⟩])
   .ret)
   .skip))
  (.seq (.region false [⟨⟨.mv (.slot 0), some 8, none⟩, []⟩,
    ⟨⟨.conv .i64 (.slot 8), some 9, none⟩, []⟩,
    ⟨⟨.mv (.slot 9), some 2, none⟩, []⟩])
  .ret))),
  [.tmp 2]⟩
theorem xf67_ok : compFunc Try.prog Try.f67 = some xf67 := by kernel_rfl
/-- slices.SortFunc[threshing/api.Clause,threshing/api.Lit] -/
def xf68 : XFunc := ⟨(.seq (.region false [⟨⟨.mv (.slot 0), some 5, none⟩, []⟩,
    ⟨⟨.len .slice (.slot 5), some 6, none⟩, []⟩,
    ⟨⟨.mv (.slot 6), some 4, none⟩, []⟩])
  (.region false [⟨⟨.mv (.slot 0), some 7, none⟩, []⟩,
    ⟨⟨.mv (.slot 4), some 8, none⟩, []⟩,
    ⟨⟨.mv (.slot 4), some 9, none⟩, []⟩,
    ⟨⟨.conv .u64 (.slot 9), some 10, none⟩, []⟩,
    ⟨⟨.call (.const (.func 80 [] [])) [(.slot 10)], some 11, none⟩, []⟩,
    ⟨⟨.mv (.slot 1), some 12, none⟩, []⟩,
    ⟨⟨.call (.const (.func 83 [] [])) [(.slot 7), (.const (.int .i64 (.ofNat 0))), (.slot 8), (.slot 11), (.slot 12)], some 13, none⟩, []⟩])),
  []⟩
theorem xf68_ok : compFunc Try.prog Try.f68 = some xf68 := by kernel_rfl
/-- threshing/cnf.order -/
def xf69 : XFunc := ⟨(.seq (.region false [⟨⟨.mv (.const (.int .i64 (.ofNat 0))), some 4, none⟩, []⟩])
  (.seq (.region false [⟨⟨.mv (.slot 0), some 5, none⟩, []⟩,
    ⟨⟨.call (.const (.func 50 [] [])) [(.slot 5)], some 6, none⟩, []⟩,
    ⟨⟨.mv (.slot 1), some 7, none⟩, []⟩,
    ⟨⟨.call (.const (.func 50 [] [])) [(.slot 7)], some 8, none⟩, []⟩,
    ⟨⟨.call (.const (.func 85 [] [])) [(.slot 6), (.slot 8)], some 9, none⟩, []⟩,
    ⟨⟨.mv (.slot 0), some 10, none⟩, []⟩,
    ⟨⟨.mv (.slot 1), some 11, none⟩, []⟩,
    ⟨⟨.call (.const (.func 86 [] [])) [(.slot 10), (.slot 11)], some 12, none⟩, []⟩,
    ⟨⟨.bslice 1 [(.int .i64 (.ofNat 0)), (.int .i64 (.ofNat 0))] [(0, 1, (.slot 9)), (1, 1, (.slot 12))] 2, some 13, none⟩, []⟩,
    ⟨⟨.call (.const (.func 84 [] [])) [(.slot 13)], some 14, none⟩, []⟩,
    ⟨⟨.mv (.slot 14), some 4, none⟩, []⟩])
  .ret)),
  [.tmp 4]⟩
theorem xf69_ok : compFunc Try.prog Try.f69 = some xf69 := by kernel_rfl
/-- slices.Compact[threshing/api.Clause,threshing/api.Lit] -/
def xf70 : XFunc := ⟨(.seq (.region false [⟨⟨.mv (.const .nils), some 2, none⟩, []⟩])
  (.seq (.seq (.region false [⟨⟨.mv (.slot 0), some 6, none⟩, []⟩,
    ⟨⟨.len .slice (.slot 6), some 7, none⟩, []⟩,
    ⟨⟨.bin .lss 3 .num (.slot 7) (.const (.int .i64 (.ofNat 2))), some 8, none⟩, []⟩])
  (.cond (.slot 8)
   (.seq (.region false [⟨⟨.mv (.slot 0), some 9, none⟩, []⟩,
     ⟨⟨.mv (.slot 9), some 2, none⟩, []⟩])
   .ret)
   .skip))
  (.seq (.seq (.region false [⟨⟨.mv (.const (.int .i64 (.ofNat 1))), some 3, none⟩, []⟩])
  (.block 0 (.loop (.seq (.seq (.region false [⟨⟨.mv (.slot 3), some 10, none⟩, []⟩,
     ⟨⟨.mv (.slot 0), some 11, none⟩, []⟩,
     ⟨⟨.len .slice (.slot 11), some 12, none⟩, []⟩,
     ⟨⟨.bin .lss 3 .num (.slot 10) (.slot 12), some 13, none⟩, []⟩])
   (.cond (.slot 13)
    .skip
    (.exit 0)))
   (.seq (.block 1 (.seq (.region true [⟨⟨.mv (.slot 0), some 16, none⟩, []⟩,
     ⟨⟨.mv (.slot 3), some 17, none⟩, []⟩,
     ⟨⟨.iaddr 1 (.slot 16) (.slot 17), some 18, none⟩, []⟩,
     ⟨⟨.load false 1 (.slot 18), some 19, none⟩, []⟩,
     ⟨⟨.mv (.slot 0), some 20, none⟩, []⟩,
     ⟨⟨.mv (.slot 3), some 21, none⟩, []⟩,
     ⟨⟨.bin .sub 3 .num (.slot 21) (.const (.int .i64 (.ofNat 1))), some 22, none⟩, []⟩,
     ⟨⟨.iaddr 1 (.slot 20) (.slot 22), some 23, none⟩, []⟩,
     ⟨⟨.load false 1 (.slot 23), some 24, none⟩, []⟩,
     ⟨⟨.bin .eql 55 .num (.slot 19) (.slot 24), some 25, none⟩, []⟩])
   (.cond (.slot 25)
    (.seq (.region false [⟨⟨.mv (.slot 0), some 26, none⟩, []⟩,
      ⟨⟨.mv (.slot 3), some 27, none⟩, []⟩,
      ⟨⟨.slc 1 (.slot 26) (some (.slot 27)) none none, some 28, none⟩, []⟩,
      ⟨⟨.mv (.slot 28), some 4, none⟩, []⟩])
    (.seq (.seq (.region false [⟨⟨.mv (.const (.int .i64 (.ofNat 1))), some 5, none⟩, []⟩])
    (.block 2 (.loop (.seq (.seq (.region false [⟨⟨.mv (.slot 5), some 29, none⟩, []⟩,
       ⟨⟨.mv (.slot 4), some 30, none⟩, []⟩,
       ⟨⟨.len .slice (.slot 30), some 31, none⟩, []⟩,
       ⟨⟨.bin .lss 3 .num (.slot 29) (.slot 31), some 32, none⟩, []⟩])
     (.cond (.slot 32)
      .skip
      (.exit 2)))
     (.seq (.block 3 (.seq (.region true [⟨⟨.mv (.slot 4), some 35, none⟩, []⟩,
       ⟨⟨.mv (.slot 5), some 36, none⟩, []⟩,
       ⟨⟨.iaddr 1 (.slot 35) (.slot 36), some 37, none⟩, []⟩,
       ⟨⟨.load false 1 (.slot 37), some 38, none⟩, []⟩,
       ⟨⟨.mv (.slot 4), some 39, none⟩, []⟩,
       ⟨⟨.mv (.slot 5), some 40, none⟩, []⟩,
       ⟨⟨.bin .sub 3 .num (.slot 40) (.const (.int .i64 (.ofNat 1))), some 41, none⟩, []⟩,
       ⟨⟨.iaddr 1 (.slot 39) (.slot 41), some 42, none⟩, []⟩,
       ⟨⟨.load false 1 (.slot 42), some 43, none⟩, []⟩,
       ⟨⟨.bin .neq 55 .num (.slot 38) (.slot 43), some 44, none⟩, []⟩])
     (.cond (.slot 44)
      (.seq (.region false [⟨⟨.mv (.slot 0), some 45, none⟩, []⟩,
        ⟨⟨.mv (.slot 3), some 46, none⟩, []⟩,
        ⟨⟨.mv (.slot 4), some 47, none⟩, []⟩,
        ⟨⟨.mv (.slot 5), some 48, none⟩, []⟩,
        ⟨⟨.iaddr 1 (.slot 47) (.slot 48), some 49, none⟩, []⟩,
        ⟨⟨.load false 1 (.slot 49), some 50, none⟩, []⟩,
        ⟨⟨.iaddr 1 (.slot 45) (.slot 46), some 51, none⟩, []⟩,
        ⟨⟨.store 1 (.slot 51) (.slot 50), none, none⟩, []⟩])
      (.region false [⟨⟨.mv (.slot 3), some 52, none⟩, []⟩,
        ⟨⟨.bin .add 3 .num (.slot 52) (.const (.int .i64 (.ofNat 1))), some 53, none⟩, []⟩,
        ⟨⟨.mv (.slot 53), some 3, none⟩, []⟩]))
      .skip)))
     (.region false [⟨⟨.mv (.slot 5), some 33, none⟩, []⟩,
       ⟨⟨.bin .add 3 .num (.slot 33) (.const (.int .i64 (.ofNat 1))), some 34, none⟩, []⟩,
       ⟨⟨.mv (.slot 34), some 5, none⟩, []⟩]))))))
    (.seq (.region false [⟨⟨.mv (.slot 0), some 54, none⟩, []⟩,
      ⟨⟨.mv (.slot 3), some 55, none⟩, []⟩,
      ⟨⟨.slc 1 (.slot 54) (some (.slot 55)) none none, some 56, none⟩, []⟩,
      ⟨⟨.clear [(.int .i32 (.ofNat 0))] (.slot 56), none, none⟩, []⟩])
    (.seq (.region false [⟨⟨.mv (.slot 0), some 57, none⟩, []⟩,
      ⟨⟨.mv (.slot 3), some 58, none⟩, []⟩,
      ⟨⟨.slc 1 (.slot 57) none (some (.slot 58)) none, some 59, none⟩, []⟩,
      ⟨⟨.mv (.slot 59), some 2, none⟩, []⟩])
    .ret))))
    .skip)))
   (.region false [⟨⟨.mv (.slot 3), some 14, none⟩, []⟩,
     ⟨⟨.bin .add 3 .num (.slot 14) (.const (.int .i64 (.ofNat 1))), some 15, none⟩, []⟩,
     ⟨⟨.mv (.slot 15), some 3, none⟩, []⟩]))))))
  (.seq (.region false [⟨⟨.mv (.slot 0), some 60, none⟩, []⟩,
    ⟨⟨.mv (.slot 60), some 2, none⟩, []⟩])
  .ret)))),
  [.tmp 2]⟩
theorem xf70_ok : compFunc Try.prog Try.f70 = some xf70 := by kernel_rfl
/-- slices.Clip[threshing/api.Clause,threshing/api.Lit] -/
def xf71 : XFunc := ⟨(.seq (.region false [⟨⟨.mv (.const .nils), some 2, none⟩, []⟩])
  (.seq (.region false [⟨⟨.mv (.slot 0), some 3, none⟩, []⟩,
    ⟨⟨.mv (.slot 0), some 4, none⟩, []⟩,
    ⟨⟨.len .slice (.slot 4), some 5, none⟩, []⟩,
    ⟨⟨.mv (.slot 0), some 6, none⟩, []⟩,
    ⟨⟨.len .slice (.slot 6), some 7, none⟩, []⟩,
    ⟨⟨.slc 1 (.slot 3) none (some (.slot 5)) (some (.slot 7)), some 8, none⟩, []⟩,
    ⟨⟨.mv (.slot 8), some 2, none⟩, []⟩])
  .ret)),
  [.tmp 2]⟩
theorem xf71_ok : compFunc Try.prog Try.f71 = some xf71 := by kernel_rfl
/-- slices.IndexFunc[[]int64,int64] -/
def xf72 : XFunc := ⟨(.seq (.region false [⟨⟨.mv (.const (.int .i64 (.ofNat 0))), some 4, none⟩, []⟩])
  (.seq (.seq (.region false [⟨⟨.mv (.slot 0), some 6, none⟩, []⟩,
    ⟨⟨.len .slice (.slot 6), some 7, none⟩, []⟩,
    ⟨⟨.mv (.const (.int .i64 (.ofNat 0))), some 8, none⟩, []⟩])
  (.block 0 (.loop (.seq (.region false [⟨⟨.bin .lss 3 .num (.slot 8) (.slot 7), some 9, none⟩, []⟩])
   (.seq (.cond (.slot 9)
    .skip
    (.exit 0))
   (.seq (.block 1 (.seq (.region false [⟨⟨.mv (.slot 8), some 10, none⟩, []⟩,
     ⟨⟨.mv (.slot 10), some 5, none⟩, []⟩])
   (.seq (.region false [⟨⟨.mv (.slot 1), some 11, none⟩, []⟩,
     ⟨⟨.mv (.slot 0), some 12, none⟩, []⟩,
     ⟨⟨.mv (.slot 5), some 13, none⟩, []⟩,
     ⟨⟨.iaddr 1 (.slot 12) (.slot 13), some 14, none⟩, []⟩,
     ⟨⟨.load false 1 (.slot 14), some 15, none⟩, []⟩,
     ⟨⟨.call (.slot 11) [(.slot 15)], some 16, none⟩, []⟩])
   (.cond (.slot 16)
    (.seq (.region false [⟨⟨.mv (.slot 5), some 17, none⟩, []⟩,
      ⟨⟨.mv (.slot 17), some 4, none⟩, []⟩])
    .ret)
    .skip))))
   (.region false [⟨⟨.bin .add 3 .num (.slot 8) (.const (.int .i64 (.ofNat 1))), some 18, none⟩, []⟩,
     ⟨⟨.mv (.slot 18), some 8, none⟩, []⟩])))))))
  (.seq (.region false [⟨⟨.mv (.const (.int .i64 (.negSucc 0))), some 4, none⟩, []⟩])
  .ret))),
  [.tmp 4]⟩
theorem xf72_ok : compFunc Try.prog Try.f72 = some xf72 := by kernel_rfl
/-- threshing/check.head$1 -/
def xf73 : XFunc := ⟨(.seq (.region false [⟨⟨.mv (.const (.bool false)), some 2, none⟩, []⟩])
  (.seq (.region false [⟨⟨.mv (.slot 0), some 3, none⟩, []⟩,
    ⟨⟨.bin .lss 2 .num (.slot 3) (.const (.int .i64 (.ofNat 0))), some 4, none⟩, []⟩,
    ⟨⟨.mv (.slot 4), some 2, none⟩, []⟩])
  .ret)),
  [.tmp 2]⟩
theorem xf73_ok : compFunc Try.prog Try.f73 = some xf73 := by kernel_rfl
/-- (*threshing/check.Checker).through$1 -/
def xf74 : XFunc := ⟨(.seq (.region false [⟨⟨.mv (.const (.int .i64 (.ofNat 0))), some 3, none⟩, []⟩])
  (.seq (.region false [⟨⟨.load false 1 (.slot 1), some 11, none⟩, []⟩,
    ⟨⟨.nilCheck (.slot 11), some 12, none⟩, []⟩,
    ⟨⟨.faddr 0 (.slot 12), some 13, none⟩, []⟩,
    ⟨⟨.load false 1 (.slot 13), some 14, none⟩, []⟩,
    ⟨⟨.mv (.slot 0), some 15, none⟩, []⟩,
    ⟨⟨.lookup .i64 .nilp (.slot 14) (.slot 15) true, some 16, none⟩, []⟩,
    ⟨⟨.mv (.slot 16), some 10, none⟩, []⟩,
    ⟨⟨.extract (.slot 10) 0, some 17, none⟩, []⟩,
    ⟨⟨.extract (.slot 10) 1, some 18, none⟩, []⟩,
    ⟨⟨.mv (.slot 17), some 4, none⟩, []⟩,
    ⟨⟨.mv (.slot 18), some 5, none⟩, []⟩])
  (.seq (.seq (.region false [⟨⟨.mv (.slot 5), some 19, none⟩, []⟩,
    ⟨⟨.un .not (.slot 19), some 20, none⟩, []⟩])
  (.cond (.slot 20)
   (.seq (.region false [⟨⟨.mv (.const (.int .i64 (.ofNat 2))), some 3, none⟩, []⟩])
   .ret)
   .skip))
  (.seq (.region false [⟨⟨.mv (.const (.int .i32 (.ofNat 0))), some 6, none⟩, []⟩])
  (.seq (.seq (.region false [⟨⟨.mv (.slot 4), some 21, none⟩, []⟩,
    ⟨⟨.nilCheck (.slot 21), some 22, none⟩, []⟩,
    ⟨⟨.faddr 1 (.slot 22), some 23, none⟩, []⟩,
    ⟨⟨.load false 1 (.slot 23), some 24, none⟩, []⟩,
    ⟨⟨.len .slice (.slot 24), some 25, none⟩, []⟩,
    ⟨⟨.mv (.const (.int .i64 (.ofNat 0))), some 26, none⟩, []⟩])
  (.block 0 (.loop (.seq (.region false [⟨⟨.bin .lss 3 .num (.slot 26) (.slot 25), some 27, none⟩, []⟩])
   (.seq (.cond (.slot 27)
    .skip
    (.exit 0))
   (.seq (.block 1 (.seq (.region false [⟨⟨.iaddr 1 (.slot 24) (.slot 26), some 28, none⟩, []⟩,
     ⟨⟨.load false 1 (.slot 28), some 29, none⟩, []⟩,
     ⟨⟨.mv (.slot 29), some 8, none⟩, []⟩])
   (.seq (.region false [⟨⟨.load false 1 (.slot 1), some 30, none⟩, []⟩,
     ⟨⟨.mv (.slot 8), some 31, none⟩, []⟩,
     ⟨⟨.call (.const (.func 75 [] [])) [(.slot 30), (.slot 31)], some 32, none⟩, []⟩,
     ⟨⟨.mv (.slot 32), some 9, none⟩, []⟩])
   (.block 2 (.seq (.seq (.region false [⟨⟨.mv (.slot 9), some 34, none⟩, []⟩,
     ⟨⟨.bin .eql 112 .num (.slot 34) (.const (.int .i8 (.ofNat 1))), some 35, none⟩, []⟩,
     ⟨⟨.mv (.slot 35), some 33, none⟩, []⟩])
   (.cond (.slot 33)
    .skip
    (.region false [⟨⟨.mv (.slot 9), some 36, none⟩, []⟩,
      ⟨⟨.bin .eql 112 .num (.slot 36) (.const (.int .i8 (.ofNat 0))), some 37, none⟩, []⟩,
      ⟨⟨.mv (.slot 37), some 38, none⟩, []⟩,
      ⟨⟨.mv (.slot 6), some 39, some (38, true)⟩, []⟩,
      ⟨⟨.bin .neq 55 .num (.slot 39) (.const (.int .i32 (.ofNat 0))), some 40, some (38, true)⟩, []⟩,
      ⟨⟨.pick (.slot 38) (.slot 40) (.const (.bool false)), some 41, none⟩, []⟩,
      ⟨⟨.mv (.slot 41), some 33, none⟩, []⟩])))
   (.cond (.slot 33)
    (.seq (.region false [⟨⟨.mv (.const (.int .i64 (.ofNat 2))), some 3, none⟩, []⟩])
    .ret)
    (.seq (.region false [⟨⟨.mv (.slot 9), some 43, none⟩, []⟩,
      ⟨⟨.bin .eql 112 .num (.slot 43) (.const (.int .i8 (.ofNat 0))), some 44, none⟩, []⟩,
      ⟨⟨.mv (.slot 44), some 42, none⟩, []⟩])
    (.cond (.slot 42)
     (.region false [⟨⟨.mv (.slot 8), some 45, none⟩, []⟩,
       ⟨⟨.mv (.slot 45), some 6, none⟩, []⟩])
     .skip))))))))
   (.region false [⟨⟨.bin .add 3 .num (.slot 26) (.const (.int .i64 (.ofNat 1))), some 46, none⟩, []⟩,
     ⟨⟨.mv (.slot 46), some 26, none⟩, []⟩])))))))
  (.seq (.seq (.region false [⟨⟨.mv (.slot 6), some 47, none⟩, []⟩,
    ⟨⟨.bin .eql 55 .num (.slot 47) (.const (.int .i32 (.ofNat 0))), some 48, none⟩, []⟩])
  (.cond (.slot 48)
   (.seq (.region false [⟨⟨.mv (.const (.int .i64 (.ofNat 1))), some 3, none⟩, []⟩])
   .ret)
   .skip))
  (.seq (.region false [⟨⟨.load false 1 (.slot 1), some 49, none⟩, []⟩,
    ⟨⟨.mv (.slot 6), some 50, none⟩, []⟩,
    ⟨⟨.call (.const (.func 54 [] [])) [(.slot 49), (.slot 50)], some 51, none⟩, []⟩])
  (.seq (.region false [⟨⟨.mv (.const (.int .i64 (.ofNat 0))), some 3, none⟩, []⟩])
  .ret)))))))),
  [.tmp 3]⟩
theorem xf74_ok : compFunc Try.prog Try.f74 = some xf74 := by kernel_rfl
/-- (*threshing/check.Checker).of -/
def xf75 : XFunc := ⟨(.seq (.region false [⟨⟨.mv (.const (.int .i8 (.ofNat 0))), some 4, none⟩, []⟩])
  (.seq (.region false [⟨⟨.mv (.slot 1), some 6, none⟩, []⟩,
    ⟨⟨.call (.const (.func 50 [] [])) [(.slot 6)], some 7, none⟩, []⟩,
    ⟨⟨.mv (.slot 7), some 5, none⟩, []⟩])
  (.seq (.seq (.region false [⟨⟨.mv (.slot 5), some 8, none⟩, []⟩,
    ⟨⟨.mv (.slot 0), some 9, none⟩, []⟩,
    ⟨⟨.nilCheck (.slot 9), some 10, none⟩, []⟩,
    ⟨⟨.faddr 4 (.slot 10), some 11, none⟩, []⟩,
    ⟨⟨.load false 1 (.slot 11), some 12, none⟩, []⟩,
    ⟨⟨.len .slice (.slot 12), some 13, none⟩, []⟩,
    ⟨⟨.bin .geq 3 .num (.slot 8) (.slot 13), some 14, none⟩, []⟩])
  (.cond (.slot 14)
   (.seq (.region false [⟨⟨.mv (.const (.int .i8 (.ofNat 0))), some 4, none⟩, []⟩])
   .ret)
   .skip))
  (.seq (.seq (.region false [⟨⟨.mv (.slot 1), some 15, none⟩, []⟩,
    ⟨⟨.bin .lss 55 .num (.slot 15) (.const (.int .i32 (.ofNat 0))), some 16, none⟩, []⟩])
  (.cond (.slot 16)
   (.seq (.region false [⟨⟨.mv (.slot 0), some 17, none⟩, []⟩,
     ⟨⟨.nilCheck (.slot 17), some 18, none⟩, []⟩,
     ⟨⟨.faddr 4 (.slot 18), some 19, none⟩, []⟩,
     ⟨⟨.load false 1 (.slot 19), some 20, none⟩, []⟩,
     ⟨⟨.mv (.slot 5), some 21, none⟩, []⟩,
     ⟨⟨.iaddr 1 (.slot 20) (.slot 21), some 22, none⟩, []⟩,
     ⟨⟨.load false 1 (.slot 22), some 23, none⟩, []⟩,
     ⟨⟨.un .neg (.slot 23), some 24, none⟩, []⟩,
     ⟨⟨.mv (.slot 24), some 4, none⟩, []⟩])
   .ret)
   .skip))
  (.seq (.region false [⟨⟨.mv (.slot 0), some 25, none⟩, []⟩,
    ⟨⟨.nilCheck (.slot 25), some 26, none⟩, []⟩,
    ⟨⟨.faddr 4 (.slot 26), some 27, none⟩, []⟩,
    ⟨⟨.load false 1 (.slot 27), some 28, none⟩, []⟩,
    ⟨⟨.mv (.slot 5), some 29, none⟩, []⟩,
    ⟨⟨.iaddr 1 (.slot 28) (.slot 29), some 30, none⟩, []⟩,
    ⟨⟨.load false 1 (.slot 30), some 31, none⟩, []⟩,
    ⟨⟨.mv (.slot 31), some 4, none⟩, []⟩])
  .ret))))),
  [.tmp 4]⟩
theorem xf75_ok : compFunc Try.prog Try.f75 = some xf75 := by kernel_rfl
/-- slices.Contains[threshing/api.Clause,threshing/api.Lit] -/
def xf76 : XFunc := ⟨(.seq (.region false [⟨⟨.mv (.const (.bool false)), some 4, none⟩, []⟩])
  (.seq (.region false [⟨⟨.mv (.slot 0), some 5, none⟩, []⟩,
    ⟨⟨.mv (.slot 1), some 6, none⟩, []⟩,
    ⟨⟨.call (.const (.func 87 [] [])) [(.slot 5), (.slot 6)], some 7, none⟩, []⟩,
    ⟨⟨.bin .geq 3 .num (.slot 7) (.const (.int .i64 (.ofNat 0))), some 8, none⟩, []⟩,
    ⟨⟨.mv (.slot 8), some 4, none⟩, []⟩])
  .ret)),
  [.tmp 4]⟩
theorem xf76_ok : compFunc Try.prog Try.f76 = some xf76 := by kernel_rfl
/-- (*threshing/check.Checker).group -/
def xf77 : XFunc := ⟨(.seq (.region false [⟨⟨.box (.slot 0), some 4, none⟩, []⟩,
    ⟨⟨.mv (.const (.int .i64 (.ofNat 0))), some 8, none⟩, []⟩])
  (.seq (.region false [⟨⟨.load false 1 (.slot 4), some 14, none⟩, []⟩,
    ⟨⟨.nilCheck (.slot 14), some 15, none⟩, []⟩,
    ⟨⟨.faddr 5 (.slot 15), some 16, none⟩, []⟩,
    ⟨⟨.load false 1 (.slot 16), some 17, none⟩, []⟩,
    ⟨⟨.len .slice (.slot 17), some 18, none⟩, []⟩,
    ⟨⟨.alloc [(.int .i64 (.ofNat 0))], some 9, none⟩, []⟩,
    ⟨⟨.store 1 (.slot 9) (.slot 18), none, none⟩, []⟩])
  (.seq (.region false [⟨⟨.mkfunc 88 [] [(.slot 4), (.slot 9)], some 19, none⟩, []⟩,
    ⟨⟨.defer (.slot 19) [], none, none⟩, []⟩])
  (.seq (.seq (.region false [⟨⟨.mv (.slot 1), some 20, none⟩, []⟩,
    ⟨⟨.nilCheck (.slot 20), some 21, none⟩, []⟩,
    ⟨⟨.faddr 1 (.slot 21), some 22, none⟩, []⟩,
    ⟨⟨.load false 1 (.slot 22), some 23, none⟩, []⟩,
    ⟨⟨.len .slice (.slot 23), some 24, none⟩, []⟩,
    ⟨⟨.mv (.const (.int .i64 (.ofNat 0))), some 25, none⟩, []⟩])
  (.block 0 (.loop (.seq (.region false [⟨⟨.bin .lss 3 .num (.slot 25) (.slot 24), some 26, none⟩, []⟩])
   (.seq (.cond (.slot 26)
    .skip
    (.exit 0))
   (.seq (.block 1 (.seq (.region false [⟨⟨.iaddr 1 (.slot 23) (.slot 25), some 27, none⟩, []⟩,
     ⟨⟨.load false 1 (.slot 27), some 28, none⟩, []⟩,
     ⟨⟨.mv (.slot 28), some 11, none⟩, []⟩])
   (.seq (.region false [⟨⟨.mv (.slot 11), some 29, none⟩, []⟩,
     ⟨⟨.mv (.slot 2), some 30, none⟩, []⟩,
     ⟨⟨.un .neg (.slot 30), some 31, none⟩, []⟩,
     ⟨⟨.bin .neq 55 .num (.slot 29) (.slot 31), some 32, none⟩, []⟩,
     ⟨⟨.mv (.slot 32), some 33, none⟩, []⟩,
     ⟨⟨.load false 1 (.slot 4), some 34, some (33, true)⟩, []⟩,
     ⟨⟨.mv (.slot 11), some 35, some (33, true)⟩, []⟩,
     ⟨⟨.call (.const (.func 75 [] [])) [(.slot 34), (.slot 35)], some 36, some (33, true)⟩, []⟩,
     ⟨⟨.bin .eql 112 .num (.slot 36) (.const (.int .i8 (.ofNat 1))), some 37, some (33, true)⟩, []⟩,
     ⟨⟨.mv (.slot 37), some 38, some (33, true)⟩, []⟩,
     ⟨⟨.mv (.slot 1), some 39, some (38, false)⟩, []⟩,
     ⟨⟨.nilCheck (.slot 39), some 40, some (38, false)⟩, []⟩,
     ⟨⟨.faddr 2 (.slot 40), some 41, some (38, false)⟩, []⟩,
     ⟨⟨.load false 1 (.slot 41), some 42, some (38, false)⟩, []⟩,
     ⟨⟨.mv (.slot 42), some 43, some (38, false)⟩, []⟩,
     ⟨⟨.mv (.slot 1), some 44, some (43, true)⟩, []⟩,
     ⟨⟨.nilCheck (.slot 44), some 45, some (43, true)⟩, []⟩,
     ⟨⟨.faddr 1 (.slot 45), some 46, some (43, true)⟩, []⟩,
     ⟨⟨.load false 1 (.slot 46), some 47, some (43, true)⟩, []⟩,
     ⟨⟨.mv (.slot 11), some 48, some (43, true)⟩, []⟩,
     ⟨⟨.un .neg (.slot 48), some 49, some (43, true)⟩, []⟩,
     ⟨⟨.call (.const (.func 76 [] [])) [(.slot 47), (.slot 49)], some 50, some (43, true)⟩, []⟩,
     ⟨⟨.pick (.slot 43) (.slot 50) (.const (.bool false)), some 51, some (38, false)⟩, []⟩,
     ⟨⟨.pick (.slot 38) (.const (.bool true)) (.slot 51), some 52, some (33, true)⟩, []⟩,
     ⟨⟨.pick (.slot 33) (.slot 52) (.const (.bool false)), some 53, none⟩, []⟩])
   (.cond (.slot 53)
    (.seq (.region false [⟨⟨.mv (.const (.int .i64 (.ofNat 0))), some 8, none⟩, []⟩])
    .ret)
    .skip))))
   (.region false [⟨⟨.bin .add 3 .num (.slot 25) (.const (.int .i64 (.ofNat 1))), some 54, none⟩, []⟩,
     ⟨⟨.mv (.slot 54), some 25, none⟩, []⟩])))))))
  (.seq (.seq (.region false [⟨⟨.mv (.slot 1), some 55, none⟩, []⟩,
    ⟨⟨.nilCheck (.slot 55), some 56, none⟩, []⟩,
    ⟨⟨.faddr 1 (.slot 56), some 57, none⟩, []⟩,
    ⟨⟨.load false 1 (.slot 57), some 58, none⟩, []⟩,
    ⟨⟨.len .slice (.slot 58), some 59, none⟩, []⟩,
    ⟨⟨.mv (.const (.int .i64 (.ofNat 0))), some 60, none⟩, []⟩])
  (.block 2 (.loop (.seq (.region false [⟨⟨.bin .lss 3 .num (.slot 60) (.slot 59), some 61, none⟩, []⟩])
   (.seq (.cond (.slot 61)
    .skip
    (.exit 2))
   (.seq (.block 3 (.seq (.region false [⟨⟨.iaddr 1 (.slot 58) (.slot 60), some 62, none⟩, []⟩,
     ⟨⟨.load false 1 (.slot 62), some 63, none⟩, []⟩,
     ⟨⟨.mv (.slot 63), some 13, none⟩, []⟩])
   (.seq (.region false [⟨⟨.mv (.slot 13), some 64, none⟩, []⟩,
     ⟨⟨.mv (.slot 2), some 65, none⟩, []⟩,
     ⟨⟨.un .neg (.slot 65), some 66, none⟩, []⟩,
     ⟨⟨.bin .neq 55 .num (.slot 64) (.slot 66), some 67, none⟩, []⟩,
     ⟨⟨.mv (.slot 67), some 68, none⟩, []⟩,
     ⟨⟨.load false 1 (.slot 4), some 69, some (68, true)⟩, []⟩,
     ⟨⟨.mv (.slot 13), some 70, some (68, true)⟩, []⟩,
     ⟨⟨.call (.const (.func 75 [] [])) [(.slot 69), (.slot 70)], some 71, some (68, true)⟩, []⟩,
     ⟨⟨.bin .eql 112 .num (.slot 71) (.const (.int .i8 (.ofNat 0))), some 72, some (68, true)⟩, []⟩,
     ⟨⟨.pick (.slot 68) (.slot 72) (.const (.bool false)), some 73, none⟩, []⟩])
   (.cond (.slot 73)
    (.region false [⟨⟨.load false 1 (.slot 4), some 74, none⟩, []⟩,
      ⟨⟨.mv (.slot 13), some 75, none⟩, []⟩,
      ⟨⟨.un .neg (.slot 75), some 76, none⟩, []⟩,
      ⟨⟨.call (.const (.func 54 [] [])) [(.slot 74), (.slot 76)], some 77, none⟩, []⟩])
    .skip))))
   (.region false [⟨⟨.bin .add 3 .num (.slot 60) (.const (.int .i64 (.ofNat 1))), some 78, none⟩, []⟩,
     ⟨⟨.mv (.slot 78), some 60, none⟩, []⟩])))))))
  (.seq (.seq (.region false [⟨⟨.load false 1 (.slot 4), some 79, none⟩, []⟩,
    ⟨⟨.mv (.slot 3), some 80, none⟩, []⟩,
    ⟨⟨.call (.const (.func 56 [] [])) [(.slot 79), (.slot 80)], some 81, none⟩, []⟩])
  (.block 4 (.seq (.region false [⟨⟨.bin .eql 93 .num (.slot 81) (.const (.int .i64 (.ofNat 2))), some 83, none⟩, []⟩,
    ⟨⟨.mv (.slot 83), some 82, none⟩, []⟩])
  (.cond (.slot 82)
   (.seq (.region false [⟨⟨.mv (.const (.int .i64 (.ofNat 60))), some 8, none⟩, []⟩])
   .ret)
   (.seq (.region false [⟨⟨.bin .eql 93 .num (.slot 81) (.const (.int .i64 (.ofNat 0))), some 85, none⟩, []⟩,
     ⟨⟨.mv (.slot 85), some 84, none⟩, []⟩])
   (.cond (.slot 84)
    (.seq (.region false [⟨⟨.mv (.const (.int .i64 (.ofNat 61))), some 8, none⟩, []⟩])
    .ret)
    .skip))))))
  (.seq (.region false [⟨⟨.mv (.const (.int .i64 (.ofNat 0))), some 8, none⟩, []⟩])
  .ret))))))),
  [.tmp 8]⟩
theorem xf77_ok : compFunc Try.prog Try.f77 = some xf77 := by kernel_rfl
/-- slices.AppendSeq[[]int64,int64] -/
def xf78 : XFunc := ⟨(.seq (.region false [⟨⟨.box (.slot 0), some 2, none⟩, []⟩,
    ⟨⟨.mv (.const .nils), some 4, none⟩, []⟩])
  (.seq (.seq (.region false [⟨⟨.mv (.slot 1), some 6, none⟩, []⟩])
  (.block 0 (.rangeFunc (.slot 6) [7] (.region false [⟨⟨.mv (.slot 7), some 5, none⟩, []⟩])
  (.block 1 (.region false [⟨⟨.load false 1 (.slot 2), some 8, none⟩, []⟩,
    ⟨⟨.mv (.slot 5), some 9, none⟩, []⟩,
    ⟨⟨.bslice 1 [(.int .i64 (.ofNat 0))] [(0, 1, (.slot 9))] 1, some 10, none⟩, []⟩,
    ⟨⟨.append 1 8 (.slot 8) (.slot 10), some 11, none⟩, []⟩,
    ⟨⟨.store 1 (.slot 2) (.slot 11), none, none⟩, []⟩])))))
  (.seq (.region false [⟨⟨.load false 1 (.slot 2), some 12, none⟩, []⟩,
    ⟨⟨.mv (.slot 12), some 4, none⟩, []⟩])
  .ret))),
  [.tmp 4]⟩
theorem xf78_ok : compFunc Try.prog Try.f78 = some xf78 := by kernel_rfl
/-- slices.pdqsortOrdered[int64] -/
def xf79 : XFunc := ⟨(.seq (.region false [⟨⟨.mv (.const (.bool true)), some 8, none⟩, []⟩])
  (.seq (.region false [⟨⟨.mv (.const (.bool true)), some 9, none⟩, []⟩])
  (.block 0 (.loop (.block 1 (.seq (.region false [⟨⟨.mv (.slot 2), some 19, none⟩, []⟩,
     ⟨⟨.mv (.slot 1), some 20, none⟩, []⟩,
     ⟨⟨.bin .sub 3 .num (.slot 19) (.slot 20), some 21, none⟩, []⟩,
     ⟨⟨.mv (.slot 21), some 10, none⟩, []⟩])
   (.seq (.seq (.region false [⟨⟨.mv (.slot 10), some 22, none⟩, []⟩,
     ⟨⟨.bin .leq 3 .num (.slot 22) (.const (.int .i64 (.ofNat 12))), some 23, none⟩, []⟩])
   (.cond (.slot 23)
    (.seq (.region false [⟨⟨.mv (.slot 0), some 24, none⟩, []⟩,
      ⟨⟨.mv (.slot 1), some 25, none⟩, []⟩,
      ⟨⟨.mv (.slot 2), some 26, none⟩, []⟩,
      ⟨⟨.call (.const (.func 89 [] [])) [(.slot 24), (.slot 25), (.slot 26)], some 27, none⟩, []⟩])
    .ret)
    .skip))
   (.seq (.seq (.region false [⟨⟨.mv (.slot 3), some 28, none⟩, []⟩,
     ⟨⟨.bin .eql 3 .num (.slot 28) (.const (.int .i64 (.ofNat 0))), some 29, none⟩, []⟩])
   (.cond (.slot 29)
    (.seq (.region false [⟨⟨.mv (.slot 0), some 30, none⟩, []⟩,
      ⟨⟨.mv (.slot 1), some 31, none⟩, []⟩,
      ⟨⟨.mv (.slot 2), some 32, none⟩, []⟩,
      ⟨⟨.call (.const (.func 90 [] [])) [(.slot 30), (.slot 31), (.slot 32)], some 33, none⟩, []⟩])
    .ret)
    .skip))
   (.seq (.seq (.region false [⟨⟨.mv (.slot 8), some 34, none⟩, []⟩,
     ⟨⟨.un .not (.slot 34), some 35, none⟩, []⟩])
   (.cond (.slot 35)
    (.seq (.region false [⟨⟨.mv (.slot 0), some 36, none⟩, []⟩,
      ⟨⟨.mv (.slot 1), some 37, none⟩, []⟩,
      ⟨⟨.mv (.slot 2), some 38, none⟩, []⟩,
      ⟨⟨.call (.const (.func 91 [] [])) [(.slot 36), (.slot 37), (.slot 38)], some 39, none⟩, []⟩])
    (.region false [⟨⟨.mv (.slot 3), some 40, none⟩, []⟩,
      ⟨⟨.bin .sub 3 .num (.slot 40) (.const (.int .i64 (.ofNat 1))), some 41, none⟩, []⟩,
      ⟨⟨.mv (.slot 41), some 3, none⟩, []⟩]))
    .skip))
   (.seq (.region false [⟨⟨.mv (.slot 0), some 43, none⟩, []⟩,
     ⟨⟨.mv (.slot 1), some 44, none⟩, []⟩,
     ⟨⟨.mv (.slot 2), some 45, none⟩, []⟩,
     ⟨⟨.call (.const (.func 92 [] [])) [(.slot 43), (.slot 44), (.slot 45)], some 46, none⟩, []⟩,
     ⟨⟨.mv (.slot 46), some 42, none⟩, []⟩,
     ⟨⟨.extract (.slot 42) 0, some 47, none⟩, []⟩,
     ⟨⟨.extract (.slot 42) 1, some 48, none⟩, []⟩,
     ⟨⟨.mv (.slot 47), some 11, none⟩, []⟩,
     ⟨⟨.mv (.slot 48), some 12, none⟩, []⟩])
   (.seq (.seq (.region false [⟨⟨.mv (.slot 12), some 49, none⟩, []⟩,
     ⟨⟨.bin .eql 128 .num (.slot 49) (.const (.int .i64 (.ofNat 2))), some 50, none⟩, []⟩])
   (.cond (.slot 50)
    (.seq (.region false [⟨⟨.mv (.slot 0), some 51, none⟩, []⟩,
      ⟨⟨.mv (.slot 1), some 52, none⟩, []⟩,
      ⟨⟨.mv (.slot 2), some 53, none⟩, []⟩,
      ⟨⟨.call (.const (.func 93 [] [])) [(.slot 51), (.slot 52), (.slot 53)], some 54, none⟩, []⟩])
    (.seq (.region false [⟨⟨.mv (.slot 2), some 55, none⟩, []⟩,
      ⟨⟨.bin .sub 3 .num (.slot 55) (.const (.int .i64 (.ofNat 1))), some 56, none⟩, []⟩,
      ⟨⟨.mv (.slot 11), some 57, none⟩, []⟩,
      ⟨⟨.mv (.slot 1), some 58, none⟩, []⟩,
      ⟨⟨.bin .sub 3 .num (.slot 57) (.slot 58), some 59, none⟩, []⟩,
      ⟨⟨.bin .sub 3 .num (.slot 56) (.slot 59), some 60, none⟩, []⟩,
      ⟨⟨.mv (.slot 60), some 11, none⟩, []⟩])
    (.region false [⟨⟨.mv (.const (.int .i64 (.ofNat 1))), some 12, none⟩, []⟩])))
    .skip))
   (.seq (.seq (.region false [⟨⟨.mv (.slot 8), some 61, none⟩, []⟩,
     ⟨⟨.mv (.slot 61), some 62, none⟩, []⟩,
     ⟨⟨.mv (.slot 9), some 63, some (62, true)⟩, []⟩,
     ⟨⟨.pick (.slot 62) (.slot 63) (.const (.bool false)), some 64, none⟩, []⟩,
     ⟨⟨.mv (.slot 64), some 65, none⟩, []⟩,
     ⟨⟨.mv (.slot 12), some 66, some (65, true)⟩, []⟩,
     ⟨⟨.bin .eql 128 .num (.slot 66) (.const (.int .i64 (.ofNat 1))), some 67, some (65, true)⟩, []⟩,
     ⟨⟨.pick (.slot 65) (.slot 67) (.const (.bool false)), some 68, none⟩, []⟩])
   (.cond (.slot 68)
    (.seq (.region false [⟨⟨.mv (.slot 0), some 69, none⟩, []⟩,
      ⟨⟨.mv (.slot 1), some 70, none⟩, []⟩,
      ⟨⟨.mv (.slot 2), some 71, none⟩, []⟩,
      ⟨⟨.call (.const (.func 94 [] [])) [(.slot 69), (.slot 70), (.slot 71)], some 72, none⟩, []⟩])
    (.cond (.slot 72)
     .ret
     .skip))
    .skip))
   (.seq (.seq (.region true [⟨⟨.mv (.slot 1), some 73, none⟩, []⟩,
     ⟨⟨.bin .gtr 3 .num (.slot 73) (.const (.int .i64 (.ofNat 0))), some 74, none⟩, []⟩,
     ⟨⟨.mv (.slot 74), some 75, none⟩, []⟩,
     ⟨⟨.mv (.slot 0), some 76, some (75, true)⟩, []⟩,
     ⟨⟨.mv (.slot 1), some 77, some (75, true)⟩, []⟩,
     ⟨⟨.bin .sub 3 .num (.slot 77) (.const (.int .i64 (.ofNat 1))), some 78, some (75, true)⟩, []⟩,
     ⟨⟨.iaddr 1 (.slot 76) (.slot 78), some 79, some (75, true)⟩, []⟩,
     ⟨⟨.load false 1 (.slot 79), some 80, some (75, true)⟩, []⟩,
     ⟨⟨.mv (.slot 0), some 81, some (75, true)⟩, []⟩,
     ⟨⟨.mv (.slot 11), some 82, some (75, true)⟩, []⟩,
     ⟨⟨.iaddr 1 (.slot 81) (.slot 82), some 83, some (75, true)⟩, []⟩,
     ⟨⟨.load false 1 (.slot 83), some 84, some (75, true)⟩, []⟩,
     ⟨⟨.call (.const (.func 95 [] [])) [(.slot 80), (.slot 84)], some 85, some (75, true)⟩, []⟩,
     ⟨⟨.un .not (.slot 85), some 86, some (75, true)⟩, []⟩,
     ⟨⟨.pick (.slot 75) (.slot 86) (.const (.bool false)), some 87, none⟩, []⟩])
   (.cond (.slot 87)
    (.seq (.region false [⟨⟨.mv (.slot 0), some 88, none⟩, []⟩,
      ⟨⟨.mv (.slot 1), some 89, none⟩, []⟩,
      ⟨⟨.mv (.slot 2), some 90, none⟩, []⟩,
      ⟨⟨.mv (.slot 11), some 91, none⟩, []⟩,
      ⟨⟨.call (.const (.func 96 [] [])) [(.slot 88), (.slot 89), (.slot 90), (.slot 91)], some 92, none⟩, []⟩,
      ⟨⟨.mv (.slot 92), some 13, none⟩, []⟩])
    (.seq (.region false [⟨⟨.mv (.slot 13), some 93, none⟩, []⟩,
      ⟨⟨.mv (.slot 93), some 1, none⟩, []⟩])
    (.exit 1)))
    .skip))
   (.seq (.region false [⟨⟨.mv (.slot 0), some 95, none⟩, []⟩,
     ⟨⟨.mv (.slot 1), some 96, none⟩, []⟩,
     ⟨⟨.mv (.slot 2), some 97, none⟩, []⟩,
     ⟨⟨.mv (.slot 11), some 98, none⟩, []⟩,
     ⟨⟨.call (.const (.func 97 [] [])) [(.slot 95), (.slot 96), (.slot 97), (.slot 98)], some 99, none⟩, []⟩,
     ⟨⟨.mv (.slot 99), some 94, none⟩, []⟩,
     ⟨⟨.extract (.slot 94) 0, some 100, none⟩, []⟩,
     ⟨⟨.extract (.slot 94) 1, some 101, none⟩, []⟩,
     ⟨⟨.mv (.slot 100), some 14, none⟩, []⟩,
     ⟨⟨.mv (.slot 101), some 15, none⟩, []⟩])
   (.seq (.region false [⟨⟨.mv (.slot 15), some 102, none⟩, []⟩,
     ⟨⟨.mv (.slot 102), some 9, none⟩, []⟩])
   (.seq (.region false [⟨⟨.mv (.slot 14), some 103, none⟩, []⟩,
     ⟨⟨.mv (.slot 1), some 104, none⟩, []⟩,
     ⟨⟨.bin .sub 3 .num (.slot 103) (.slot 104), some 105, none⟩, []⟩,
     ⟨⟨.mv (.slot 2), some 106, none⟩, []⟩,
     ⟨⟨.mv (.slot 14), some 107, none⟩, []⟩,
     ⟨⟨.bin .sub 3 .num (.slot 106) (.slot 107), some 108, none⟩, []⟩,
     ⟨⟨.mv (.slot 105), some 16, none⟩, []⟩,
     ⟨⟨.mv (.slot 108), some 17, none⟩, []⟩])
   (.seq (.region false [⟨⟨.mv (.slot 10), some 109, none⟩, []⟩,
     ⟨⟨.bin .quo 3 .num (.slot 109) (.const (.int .i64 (.ofNat 8))), some 110, none⟩, []⟩,
     ⟨⟨.mv (.slot 110), some 18, none⟩, []⟩])
   (.seq (.region false [⟨⟨.mv (.slot 16), some 111, none⟩, []⟩,
     ⟨⟨.mv (.slot 17), some 112, none⟩, []⟩,
     ⟨⟨.bin .lss 3 .num (.slot 111) (.slot 112), some 113, none⟩, []⟩])
   (.cond (.slot 113)
    (.seq (.region false [⟨⟨.mv (.slot 16), some 114, none⟩, []⟩,
      ⟨⟨.mv (.slot 18), some 115, none⟩, []⟩,
      ⟨⟨.bin .geq 3 .num (.slot 114) (.slot 115), some 116, none⟩, []⟩,
      ⟨⟨.mv (.slot 116), some 8, none⟩, []⟩])
    (.seq (.region false [⟨⟨.mv (.slot 0), some 117, none⟩, []⟩,
      ⟨⟨.mv (.slot 1), some 118, none⟩, []⟩,
      ⟨⟨.mv (.slot 14), some 119, none⟩, []⟩,
      ⟨⟨.mv (.slot 3), some 120, none⟩, []⟩,
      ⟨⟨.call (.const (.func 79 [] [])) [(.slot 117), (.slot 118), (.slot 119), (.slot 120)], some 121, none⟩, []⟩])
    (.region false [⟨⟨.mv (.slot 14), some 122, none⟩, []⟩,
      ⟨⟨.bin .add 3 .num (.slot 122) (.const (.int .i64 (.ofNat 1))), some 123, none⟩, []⟩,
      ⟨⟨.mv (.slot 123), some 1, none⟩, []⟩])))
    (.seq (.region false [⟨⟨.mv (.slot 17), some 124, none⟩, []⟩,
      ⟨⟨.mv (.slot 18), some 125, none⟩, []⟩,
      ⟨⟨.bin .geq 3 .num (.slot 124) (.slot 125), some 126, none⟩, []⟩,
      ⟨⟨.mv (.slot 126), some 8, none⟩, []⟩])
    (.seq (.region false [⟨⟨.mv (.slot 0), some 127, none⟩, []⟩,
      ⟨⟨.mv (.slot 14), some 128, none⟩, []⟩,
      ⟨⟨.bin .add 3 .num (.slot 128) (.const (.int .i64 (.ofNat 1))), some 129, none⟩, []⟩,
      ⟨⟨.mv (.slot 2), some 130, none⟩, []⟩,
      ⟨⟨.mv (.slot 3), some 131, none⟩, []⟩,
      ⟨⟨.call (.const (.func 79 [] [])) [(.slot 127), (.slot 129), (.slot 130), (.slot 131)], some 132, none⟩, []⟩])
    (.region false [⟨⟨.mv (.slot 14), some 133, none⟩, []⟩,
      ⟨⟨.mv (.slot 133), some 2, none⟩, []⟩])))))))))))))))))))))),
  []⟩
theorem xf79_ok : compFunc Try.prog Try.f79 = some xf79 := by kernel_rfl
/-- math/bits.Len -/
def xf80 : XFunc := ⟨(.seq (.region false [⟨⟨.mv (.const (.int .i64 (.ofNat 0))), some 2, none⟩, []⟩])
  (.seq (.cond (.const (.bool false))
   (.seq (.region false [⟨⟨.mv (.slot 0), some 3, none⟩, []⟩,
     ⟨⟨.conv .u32 (.slot 3), some 4, none⟩, []⟩,
     ⟨⟨.call (.const (.func 98 [] [])) [(.slot 4)], some 5, none⟩, []⟩,
     ⟨⟨.mv (.slot 5), some 2, none⟩, []⟩])
   .ret)
   .skip)
  (.seq (.region false [⟨⟨.mv (.slot 0), some 6, none⟩, []⟩,
    ⟨⟨.call (.const (.func 99 [] [])) [(.slot 6)], some 7, none⟩, []⟩,
    ⟨⟨.mv (.slot 7), some 2, none⟩, []⟩])
  .ret))),
  [.tmp 2]⟩
theorem xf80_ok : compFunc Try.prog Try.f80 = some xf80 := by kernel_rfl
/-- threshing/threshingref01.Normal -/
def xf81 : XFunc := ⟨(.seq (.region false [⟨⟨.mv (.const .nils), some 2, none⟩, []⟩,
    ⟨⟨.mv (.const (.bool false)), some 3, none⟩, []⟩])
  (.seq (.region false [⟨⟨.mv (.const .nils), some 4, none⟩, []⟩])
  (.seq (.region false [⟨⟨.mv (.const (.bool false)), some 5, none⟩, []⟩])
  (.seq (.seq (.region false [⟨⟨.mv (.const (.int .i64 (.ofNat 0))), some 6, none⟩, []⟩])
  (.block 0 (.loop (.seq (.seq (.region false [⟨⟨.mv (.slot 6), some 9, none⟩, []⟩,
     ⟨⟨.mv (.slot 0), some 10, none⟩, []⟩,
     ⟨⟨.len .slice (.slot 10), some 11, none⟩, []⟩,
     ⟨⟨.bin .lss 3 .num (.slot 9) (.slot 11), some 12, none⟩, []⟩])
   (.cond (.slot 12)
    .skip
    (.exit 0)))
   (.seq (.block 1 (.seq (.seq (.region false [⟨⟨.mv (.slot 4), some 15, none⟩, []⟩,
     ⟨⟨.mv (.slot 0), some 16, none⟩, []⟩,
     ⟨⟨.mv (.slot 6), some 17, none⟩, []⟩,
     ⟨⟨.iaddr 1 (.slot 16) (.slot 17), some 18, none⟩, []⟩,
     ⟨⟨.load false 1 (.slot 18), some 19, none⟩, []⟩,
     ⟨⟨.call (.const (.func 40 [] [])) [(.slot 15), (.slot 19)], some 20, none⟩, []⟩])
   (.cond (.slot 20)
    (.exit 1)
    .skip))
   (.seq (.region false [⟨⟨.mv (.slot 5), some 21, none⟩, []⟩,
     ⟨⟨.mv (.slot 21), some 22, none⟩, []⟩,
     ⟨⟨.mv (.slot 0), some 23, some (22, false)⟩, []⟩,
     ⟨⟨.mv (.slot 6), some 24, some (22, false)⟩, []⟩,
     ⟨⟨.iaddr 1 (.slot 23) (.slot 24), some 25, some (22, false)⟩, []⟩,
     ⟨⟨.load false 1 (.slot 25), some 26, some (22, false)⟩, []⟩,
     ⟨⟨.bin .gtr 55 .num (.slot 26) (.const (.int .i32 (.ofNat 0))), some 27, some (22, false)⟩, []⟩,
     ⟨⟨.mv (.slot 27), some 28, some (22, false)⟩, []⟩,
     ⟨⟨.mv (.slot 0), some 29, some (28, true)⟩, []⟩,
     ⟨⟨.mv (.slot 0), some 30, some (28, true)⟩, []⟩,
     ⟨⟨.mv (.slot 6), some 31, some (28, true)⟩, []⟩,
     ⟨⟨.iaddr 1 (.slot 30) (.slot 31), some 32, some (28, true)⟩, []⟩,
     ⟨⟨.load false 1 (.slot 32), some 33, some (28, true)⟩, []⟩,
     ⟨⟨.un .neg (.slot 33), some 34, some (28, true)⟩, []⟩,
     ⟨⟨.call (.const (.func 40 [] [])) [(.slot 29), (.slot 34)], some 35, some (28, true)⟩, []⟩,
     ⟨⟨.pick (.slot 28) (.slot 35) (.const (.bool false)), some 36, some (22, false)⟩, []⟩,
     ⟨⟨.pick (.slot 22) (.const (.bool true)) (.slot 36), some 37, none⟩, []⟩,
     ⟨⟨.mv (.slot 37), some 5, none⟩, []⟩])
   (.seq (.region false [⟨⟨.mv (.const (.int .i64 (.ofNat 0))), some 7, none⟩, []⟩])
   (.seq (.block 2 (.loop (.seq (.seq (.region true [⟨⟨.mv (.slot 7), some 38, none⟩, []⟩,
      ⟨⟨.mv (.slot 4), some 39, none⟩, []⟩,
      ⟨⟨.len .slice (.slot 39), some 40, none⟩, []⟩,
      ⟨⟨.bin .lss 3 .num (.slot 38) (.slot 40), some 41, none⟩, []⟩,
      ⟨⟨.mv (.slot 41), some 42, none⟩, []⟩,
      ⟨⟨.mv (.slot 4), some 43, some (42, true)⟩, []⟩,
      ⟨⟨.mv (.slot 7), some 44, some (42, true)⟩, []⟩,
      ⟨⟨.iaddr 1 (.slot 43) (.slot 44), some 45, some (42, true)⟩, []⟩,
      ⟨⟨.load false 1 (.slot 45), some 46, some (42, true)⟩, []⟩,
      ⟨⟨.mv (.slot 0), some 47, some (42, true)⟩, []⟩,
      ⟨⟨.mv (.slot 6), some 48, some (42, true)⟩, []⟩,
      ⟨⟨.iaddr 1 (.slot 47) (.slot 48), some 49, some (42, true)⟩, []⟩,
      ⟨⟨.load false 1 (.slot 49), some 50, some (42, true)⟩, []⟩,
      ⟨⟨.call (.const (.func 100 [] [])) [(.slot 46), (.slot 50)], some 51, some (42, true)⟩, []⟩,
      ⟨⟨.pick (.slot 42) (.slot 51) (.const (.bool false)), some 52, none⟩, []⟩])
    (.cond (.slot 52)
     .skip
     (.exit 2)))
    (.block 3 (.region false [⟨⟨.mv (.slot 7), some 53, none⟩, []⟩,
      ⟨⟨.bin .add 3 .num (.slot 53) (.const (.int .i64 (.ofNat 1))), some 54, none⟩, []⟩,
      ⟨⟨.mv (.slot 54), some 7, none⟩, []⟩])))))
   (.seq (.region false [⟨⟨.mv (.const .nils), some 8, none⟩, []⟩])
   (.seq (.region false [⟨⟨.mv (.slot 8), some 55, none⟩, []⟩,
     ⟨⟨.mv (.slot 4), some 56, none⟩, []⟩,
     ⟨⟨.mv (.slot 7), some 57, none⟩, []⟩,
     ⟨⟨.slc 1 (.slot 56) none (some (.slot 57)) none, some 58, none⟩, []⟩,
     ⟨⟨.append 1 4 (.slot 55) (.slot 58), some 59, none⟩, []⟩,
     ⟨⟨.mv (.slot 59), some 8, none⟩, []⟩])
   (.seq (.region false [⟨⟨.mv (.slot 8), some 60, none⟩, []⟩,
     ⟨⟨.mv (.slot 0), some 61, none⟩, []⟩,
     ⟨⟨.mv (.slot 6), some 62, none⟩, []⟩,
     ⟨⟨.iaddr 1 (.slot 61) (.slot 62), some 63, none⟩, []⟩,
     ⟨⟨.load false 1 (.slot 63), some 64, none⟩, []⟩,
     ⟨⟨.bslice 1 [(.int .i32 (.ofNat 0))] [(0, 1, (.slot 64))] 1, some 65, none⟩, []⟩,
     ⟨⟨.append 1 4 (.slot 60) (.slot 65), some 66, none⟩, []⟩,
     ⟨⟨.mv (.slot 66), some 8, none⟩, []⟩])
   (.seq (.region false [⟨⟨.mv (.slot 8), some 67, none⟩, []⟩,
     ⟨⟨.mv (.slot 4), some 68, none⟩, []⟩,
     ⟨⟨.mv (.slot 7), some 69, none⟩, []⟩,
     ⟨⟨.slc 1 (.slot 68) (some (.slot 69)) none none, some 70, none⟩, []⟩,
     ⟨⟨.append 1 4 (.slot 67) (.slot 70), some 71, none⟩, []⟩,
     ⟨⟨.mv (.slot 71), some 8, none⟩, []⟩])
   (.region false [⟨⟨.mv (.slot 8), some 72, none⟩, []⟩,
     ⟨⟨.mv (.slot 72), some 4, none⟩, []⟩]))))))))))
   (.region false [⟨⟨.mv (.slot 6), some 13, none⟩, []⟩,
     ⟨⟨.bin .add 3 .num (.slot 13) (.const (.int .i64 (.ofNat 1))), some 14, none⟩, []⟩,
     ⟨⟨.mv (.slot 14), some 6, none⟩, []⟩]))))))
  (.seq (.region false [⟨⟨.mv (.slot 4), some 73, none⟩, []⟩,
    ⟨⟨.mv (.slot 5), some 74, none⟩, []⟩,
    ⟨⟨.mv (.slot 73), some 2, none⟩, []⟩,
    ⟨⟨.mv (.slot 74), some 3, none⟩, []⟩])
  .ret))))),
  [.tmp 2, .tmp 3]⟩
theorem xf81_ok : compFunc Try.prog Try.f81 = some xf81 := by kernel_rfl
/-- (*threshing/threshingref06.Checker).group -/
def xf82 : XFunc := ⟨(.seq (.region false [⟨⟨.mv (.const (.int .i64 (.ofNat 0))), some 10, none⟩, []⟩])
  (.seq (.region false [⟨⟨.mv (.const .nils), some 11, none⟩, []⟩])
  (.seq (.region false [⟨⟨.mv (.slot 11), some 16, none⟩, []⟩,
    ⟨⟨.mv (.slot 3), some 17, none⟩, []⟩,
    ⟨⟨.append 1 4 (.slot 16) (.slot 17), some 18, none⟩, []⟩,
    ⟨⟨.mv (.slot 18), some 11, none⟩, []⟩])
  (.seq (.seq (.region false [⟨⟨.mv (.const (.int .i64 (.ofNat 0))), some 12, none⟩, []⟩])
  (.block 0 (.loop (.seq (.seq (.region false [⟨⟨.mv (.slot 12), some 19, none⟩, []⟩,
     ⟨⟨.mv (.slot 1), some 20, none⟩, []⟩,
     ⟨⟨.len .slice (.slot 20), some 21, none⟩, []⟩,
     ⟨⟨.bin .lss 3 .num (.slot 19) (.slot 21), some 22, none⟩, []⟩])
   (.cond (.slot 22)
    .skip
    (.exit 0)))
   (.seq (.block 1 (.seq (.seq (.region false [⟨⟨.mv (.slot 1), some 25, none⟩, []⟩,
     ⟨⟨.mv (.slot 12), some 26, none⟩, []⟩,
     ⟨⟨.iaddr 1 (.slot 25) (.slot 26), some 27, none⟩, []⟩,
     ⟨⟨.load false 1 (.slot 27), some 28, none⟩, []⟩,
     ⟨⟨.mv (.slot 2), some 29, none⟩, []⟩,
     ⟨⟨.un .neg (.slot 29), some 30, none⟩, []⟩,
     ⟨⟨.bin .eql 55 .num (.slot 28) (.slot 30), some 31, none⟩, []⟩])
   (.cond (.slot 31)
    (.exit 1)
    .skip))
   (.seq (.seq (.region false [⟨⟨.mv (.slot 3), some 32, none⟩, []⟩,
     ⟨⟨.mv (.slot 1), some 33, none⟩, []⟩,
     ⟨⟨.mv (.slot 12), some 34, none⟩, []⟩,
     ⟨⟨.iaddr 1 (.slot 33) (.slot 34), some 35, none⟩, []⟩,
     ⟨⟨.load false 1 (.slot 35), some 36, none⟩, []⟩,
     ⟨⟨.call (.const (.func 40 [] [])) [(.slot 32), (.slot 36)], some 37, none⟩, []⟩,
     ⟨⟨.mv (.slot 37), some 38, none⟩, []⟩,
     ⟨⟨.mv (.slot 1), some 39, some (38, false)⟩, []⟩,
     ⟨⟨.mv (.slot 1), some 40, some (38, false)⟩, []⟩,
     ⟨⟨.mv (.slot 12), some 41, some (38, false)⟩, []⟩,
     ⟨⟨.iaddr 1 (.slot 40) (.slot 41), some 42, some (38, false)⟩, []⟩,
     ⟨⟨.load false 1 (.slot 42), some 43, some (38, false)⟩, []⟩,
     ⟨⟨.un .neg (.slot 43), some 44, some (38, false)⟩, []⟩,
     ⟨⟨.call (.const (.func 40 [] [])) [(.slot 39), (.slot 44)], some 45, some (38, false)⟩, []⟩,
     ⟨⟨.pick (.slot 38) (.const (.bool true)) (.slot 45), some 46, none⟩, []⟩])
   (.cond (.slot 46)
    (.seq (.region false [⟨⟨.mv (.const (.int .i64 (.ofNat 0))), some 10, none⟩, []⟩])
    .ret)
    .skip))
   (.region false [⟨⟨.mv (.slot 11), some 47, none⟩, []⟩,
     ⟨⟨.mv (.slot 1), some 48, none⟩, []⟩,
     ⟨⟨.mv (.slot 12), some 49, none⟩, []⟩,
     ⟨⟨.iaddr 1 (.slot 48) (.slot 49), some 50, none⟩, []⟩,
     ⟨⟨.load false 1 (.slot 50), some 51, none⟩, []⟩,
     ⟨⟨.un .neg (.slot 51), some 52, none⟩, []⟩,
     ⟨⟨.bslice 1 [(.int .i32 (.ofNat 0))] [(0, 1, (.slot 52))] 1, some 53, none⟩, []⟩,
     ⟨⟨.append 1 4 (.slot 47) (.slot 53), some 54, none⟩, []⟩,
     ⟨⟨.mv (.slot 54), some 11, none⟩, []⟩]))))
   (.region false [⟨⟨.mv (.slot 12), some 23, none⟩, []⟩,
     ⟨⟨.bin .add 3 .num (.slot 23) (.const (.int .i64 (.ofNat 1))), some 24, none⟩, []⟩,
     ⟨⟨.mv (.slot 24), some 12, none⟩, []⟩]))))))
  (.seq (.region false [⟨⟨.mv (.slot 0), some 56, none⟩, []⟩,
    ⟨⟨.mv (.slot 11), some 57, none⟩, []⟩,
    ⟨⟨.mv (.slot 4), some 58, none⟩, []⟩,
    ⟨⟨.call (.const (.func 65 [] [])) [(.slot 56), (.slot 57), (.slot 58)], some 59, none⟩, []⟩,
    ⟨⟨.mv (.slot 59), some 55, none⟩, []⟩,
    ⟨⟨.extract (.slot 55) 0, some 60, none⟩, []⟩,
    ⟨⟨.extract (.slot 55) 1, some 61, none⟩, []⟩,
    ⟨⟨.extract (.slot 55) 2, some 62, none⟩, []⟩,
    ⟨⟨.mv (.slot 60), some 13, none⟩, []⟩,
    ⟨⟨.mv (.slot 61), some 14, none⟩, []⟩,
    ⟨⟨.mv (.slot 62), some 15, none⟩, []⟩])
  (.seq (.seq (.region false [⟨⟨.mv (.slot 15), some 63, none⟩, []⟩])
  (.cond (.slot 63)
   (.seq (.region false [⟨⟨.mv (.const (.int .i64 (.ofNat 60))), some 10, none⟩, []⟩])
   .ret)
   .skip))
  (.seq (.seq (.region false [⟨⟨.mv (.slot 14), some 64, none⟩, []⟩,
    ⟨⟨.un .not (.slot 64), some 65, none⟩, []⟩])
  (.cond (.slot 65)
   (.seq (.region false [⟨⟨.mv (.const (.int .i64 (.ofNat 61))), some 10, none⟩, []⟩])
   .ret)
   .skip))
  (.seq (.region false [⟨⟨.mv (.const (.int .i64 (.ofNat 0))), some 10, none⟩, []⟩])
  .ret)))))))),
  [.tmp 10]⟩
theorem xf82_ok : compFunc Try.prog Try.f82 = some xf82 := by kernel_rfl
/-- slices.pdqsortCmpFunc[threshing/api.Lit] -/
def xf83 : XFunc := ⟨(.seq (.region false [⟨⟨.mv (.const (.bool true)), some 10, none⟩, []⟩])
  (.seq (.region false [⟨⟨.mv (.const (.bool true)), some 11, none⟩, []⟩])
  (.block 0 (.loop (.block 1 (.seq (.region false [⟨⟨.mv (.slot 2), some 21, none⟩, []⟩,
     ⟨⟨.mv (.slot 1), some 22, none⟩, []⟩,
     ⟨⟨.bin .sub 3 .num (.slot 21) (.slot 22), some 23, none⟩, []⟩,
     ⟨⟨.mv (.slot 23), some 12, none⟩, []⟩])
   (.seq (.seq (.region false [⟨⟨.mv (.slot 12), some 24, none⟩, []⟩,
     ⟨⟨.bin .leq 3 .num (.slot 24) (.const (.int .i64 (.ofNat 12))), some 25, none⟩, []⟩])
   (.cond (.slot 25)
    (.seq (.region false [⟨⟨.mv (.slot 0), some 26, none⟩, []⟩,
      ⟨⟨.mv (.slot 1), some 27, none⟩, []⟩,
      ⟨⟨.mv (.slot 2), some 28, none⟩, []⟩,
      ⟨⟨.mv (.slot 4), some 29, none⟩, []⟩,
      ⟨⟨.call (.const (.func 101 [] [])) [(.slot 26), (.slot 27), (.slot 28), (.slot 29)], some 30, none⟩, []⟩])
    .ret)
    .skip))
   (.seq (.seq (.region false [⟨⟨.mv (.slot 3), some 31, none⟩, []⟩,
     ⟨⟨.bin .eql 3 .num (.slot 31) (.const (.int .i64 (.ofNat 0))), some 32, none⟩, []⟩])
   (.cond (.slot 32)
    (.seq (.region false [⟨⟨.mv (.slot 0), some 33, none⟩, []⟩,
      ⟨⟨.mv (.slot 1), some 34, none⟩, []⟩,
      ⟨⟨.mv (.slot 2), some 35, none⟩, []⟩,
      ⟨⟨.mv (.slot 4), some 36, none⟩, []⟩,
      ⟨⟨.call (.const (.func 102 [] [])) [(.slot 33), (.slot 34), (.slot 35), (.slot 36)], some 37, none⟩, []⟩])
    .ret)
    .skip))
   (.seq (.seq (.region false [⟨⟨.mv (.slot 10), some 38, none⟩, []⟩,
     ⟨⟨.un .not (.slot 38), some 39, none⟩, []⟩])
   (.cond (.slot 39)
    (.seq (.region false [⟨⟨.mv (.slot 0), some 40, none⟩, []⟩,
      ⟨⟨.mv (.slot 1), some 41, none⟩, []⟩,
      ⟨⟨.mv (.slot 2), some 42, none⟩, []⟩,
      ⟨⟨.mv (.slot 4), some 43, none⟩, []⟩,
      ⟨⟨.call (.const (.func 103 [] [])) [(.slot 40), (.slot 41), (.slot 42), (.slot 43)], some 44, none⟩, []⟩])
    (.region false [⟨⟨.mv (.slot 3), some 45, none⟩, []⟩,
      ⟨⟨.bin .sub 3 .num (.slot 45) (.const (.int .i64 (.ofNat 1))), some 46, none⟩, []⟩,
      ⟨⟨.mv (.slot 46), some 3, none⟩, []⟩]))
    .skip))
   (.seq (.region false [⟨⟨.mv (.slot 0), some 48, none⟩, []⟩,
     ⟨⟨.mv (.slot 1), some 49, none⟩, []⟩,
     ⟨⟨.mv (.slot 2), some 50, none⟩, []⟩,
     ⟨⟨.mv (.slot 4), some 51, none⟩, []⟩,
     ⟨⟨.call (.const (.func 104 [] [])) [(.slot 48), (.slot 49), (.slot 50), (.slot 51)], some 52, none⟩, []⟩,
     ⟨⟨.mv (.slot 52), some 47, none⟩, []⟩,
     ⟨⟨.extract (.slot 47) 0, some 53, none⟩, []⟩,
     ⟨⟨.extract (.slot 47) 1, some 54, none⟩, []⟩,
     ⟨⟨.mv (.slot 53), some 13, none⟩, []⟩,
     ⟨⟨.mv (.slot 54), some 14, none⟩, []⟩])
   (.seq (.seq (.region false [⟨⟨.mv (.slot 14), some 55, none⟩, []⟩,
     ⟨⟨.bin .eql 128 .num (.slot 55) (.const (.int .i64 (.ofNat 2))), some 56, none⟩, []⟩])
   (.cond (.slot 56)
    (.seq (.region false [⟨⟨.mv (.slot 0), some 57, none⟩, []⟩,
      ⟨⟨.mv (.slot 1), some 58, none⟩, []⟩,
      ⟨⟨.mv (.slot 2), some 59, none⟩, []⟩,
      ⟨⟨.mv (.slot 4), some 60, none⟩, []⟩,
      ⟨⟨.call (.const (.func 105 [] [])) [(.slot 57), (.slot 58), (.slot 59), (.slot 60)], some 61, none⟩, []⟩])
    (.seq (.region false [⟨⟨.mv (.slot 2), some 62, none⟩, []⟩,
      ⟨⟨.bin .sub 3 .num (.slot 62) (.const (.int .i64 (.ofNat 1))), some 63, none⟩, []⟩,
      ⟨⟨.mv (.slot 13), some 64, none⟩, []⟩,
      ⟨⟨.mv (.slot 1), some 65, none⟩, []⟩,
      ⟨⟨.bin .sub 3 .num (.slot 64) (.slot 65), some 66, none⟩, []⟩,
      ⟨⟨.bin .sub 3 .num (.slot 63) (.slot 66), some 67, none⟩, []⟩,
      ⟨⟨.mv (.slot 67), some 13, none⟩, []⟩])
    (.region false [⟨⟨.mv (.const (.int .i64 (.ofNat 1))), some 14, none⟩, []⟩])))
    .skip))
   (.seq (.seq (.region false [⟨⟨.mv (.slot 10), some 68, none⟩, []⟩,
     ⟨⟨.mv (.slot 68), some 69, none⟩, []⟩,
     ⟨⟨.mv (.slot 11), some 70, some (69, true)⟩, []⟩,
     ⟨⟨.pick (.slot 69) (.slot 70) (.const (.bool false)), some 71, none⟩, []⟩,
     ⟨⟨.mv (.slot 71), some 72, none⟩, []⟩,
     ⟨⟨.mv (.slot 14), some 73, some (72, true)⟩, []⟩,
     ⟨⟨.bin .eql 128 .num (.slot 73) (.const (.int .i64 (.ofNat 1))), some 74, some (72, true)⟩, []⟩,
     ⟨⟨.pick (.slot 72) (.slot 74) (.const (.bool false)), some 75, none⟩, []⟩])
   (.cond (.slot 75)
    (.seq (.region false [⟨⟨.mv (.slot 0), some 76, none⟩, []⟩,
      ⟨⟨.mv (.slot 1), some 77, none⟩, []⟩,
      ⟨⟨.mv (.slot 2), some 78, none⟩, []⟩,
      ⟨⟨.mv (.slot 4), some 79, none⟩, []⟩,
      ⟨⟨.call (.const (.func 106 [] [])) [(.slot 76), (.slot 77), (.slot 78), (.slot 79)], some 80, none⟩, []⟩])
    (.cond (.slot 80)
     .ret
     .skip))
    .skip))
   (.seq (.seq (.region true [⟨⟨.mv (.slot 1), some 81, none⟩, []⟩,
     ⟨⟨.bin .gtr 3 .num (.slot 81) (.const (.int .i64 (.ofNat 0))), some 82, none⟩, []⟩,
     ⟨⟨.mv (.slot 82), some 83, none⟩, []⟩,
     ⟨⟨.mv (.slot 4), some 84, some (83, true)⟩, []⟩,
     ⟨⟨.mv (.slot 0), some 85, some (83, true)⟩, []⟩,
     ⟨⟨.mv (.slot 1), some 86, some (83, true)⟩, []⟩,
     ⟨⟨.bin .sub 3 .num (.slot 86) (.const (.int .i64 (.ofNat 1))), some 87, some (83, true)⟩, []⟩,
     ⟨⟨.iaddr 1 (.slot 85) (.slot 87), some 88, some (83, true)⟩, []⟩,
     ⟨⟨.load false 1 (.slot 88), some 89, some (83, true)⟩, []⟩,
     ⟨⟨.mv (.slot 0), some 90, some (83, true)⟩, []⟩,
     ⟨⟨.mv (.slot 13), some 91, some (83, true)⟩, []⟩,
     ⟨⟨.iaddr 1 (.slot 90) (.slot 91), some 92, some (83, true)⟩, []⟩,
     ⟨⟨.load false 1 (.slot 92), some 93, some (83, true)⟩, []⟩,
     ⟨⟨.call (.slot 84) [(.slot 89), (.slot 93)], some 94, some (83, true)⟩, []⟩,
     ⟨⟨.bin .lss 3 .num (.slot 94) (.const (.int .i64 (.ofNat 0))), some 95, some (83, true)⟩, []⟩,
     ⟨⟨.un .not (.slot 95), some 96, some (83, true)⟩, []⟩,
     ⟨⟨.pick (.slot 83) (.slot 96) (.const (.bool false)), some 97, none⟩, []⟩])
   (.cond (.slot 97)
    (.seq (.region false [⟨⟨.mv (.slot 0), some 98, none⟩, []⟩,
      ⟨⟨.mv (.slot 1), some 99, none⟩, []⟩,
      ⟨⟨.mv (.slot 2), some 100, none⟩, []⟩,
      ⟨⟨.mv (.slot 13), some 101, none⟩, []⟩,
      ⟨⟨.mv (.slot 4), some 102, none⟩, []⟩,
      ⟨⟨.call (.const (.func 107 [] [])) [(.slot 98), (.slot 99), (.slot 100), (.slot 101), (.slot 102)], some 103, none⟩, []⟩,
      ⟨⟨.mv (.slot 103), some 15, none⟩, []⟩])
    (.seq (.region false [⟨⟨.mv (.slot 15), some 104, none⟩, []⟩,
      ⟨⟨.mv (.slot 104), some 1, none⟩, []⟩])
    (.exit 1)))
    .skip))
   (.seq (.region false [⟨⟨.mv (.slot 0), some 106, none⟩, []⟩,
     ⟨⟨.mv (.slot 1), some 107, none⟩, []⟩,
     ⟨⟨.mv (.slot 2), some 108, none⟩, []⟩,
     ⟨⟨.mv (.slot 13), some 109, none⟩, []⟩,
     ⟨⟨.mv (.slot 4), some 110, none⟩, []⟩,
     ⟨⟨.call (.const (.func 108 [] [])) [(.slot 106), (.slot 107), (.slot 108), (.slot 109), (.slot 110)], some 111, none⟩, []⟩,
     ⟨⟨.mv (.slot 111), some 105, none⟩, []⟩,
     ⟨⟨.extract (.slot 105) 0, some 112, none⟩, []⟩,
     ⟨⟨.extract (.slot 105) 1, some 113, none⟩, []⟩,
     ⟨⟨.mv (.slot 112), some 16, none⟩, []⟩,
     ⟨⟨.mv (.slot 113), some 17, none⟩, []⟩])
   (.seq (.region false [⟨⟨.mv (.slot 17), some 114, none⟩, []⟩,
     ⟨⟨.mv (.slot 114), some 11, none⟩, []⟩])
   (.seq (.region false [⟨⟨.mv (.slot 16), some 115, none⟩, []⟩,
     ⟨⟨.mv (.slot 1), some 116, none⟩, []⟩,
     ⟨⟨.bin .sub 3 .num (.slot 115) (.slot 116), some 117, none⟩, []⟩,
     ⟨⟨.mv (.slot 2), some 118, none⟩, []⟩,
     ⟨⟨.mv (.slot 16), some 119, none⟩, []⟩,
     ⟨⟨.bin .sub 3 .num (.slot 118) (.slot 119), some 120, none⟩, []⟩,
     ⟨⟨.mv (.slot 117), some 18, none⟩, []⟩,
     ⟨⟨.mv (.slot 120), some 19, none⟩, []⟩])
   (.seq (.region false [⟨⟨.mv (.slot 12), some 121, none⟩, []⟩,
     ⟨⟨.bin .quo 3 .num (.slot 121) (.const (.int .i64 (.ofNat 8))), some 122, none⟩, []⟩,
     ⟨⟨.mv (.slot 122), some 20, none⟩, []⟩])
   (.seq (.region false [⟨⟨.mv (.slot 18), some 123, none⟩, []⟩,
     ⟨⟨.mv (.slot 19), some 124, none⟩, []⟩,
     ⟨⟨.bin .lss 3 .num (.slot 123) (.slot 124), some 125, none⟩, []⟩])
   (.cond (.slot 125)
    (.seq (.region false [⟨⟨.mv (.slot 18), some 126, none⟩, []⟩,
      ⟨⟨.mv (.slot 20), some 127, none⟩, []⟩,
      ⟨⟨.bin .geq 3 .num (.slot 126) (.slot 127), some 128, none⟩, []⟩,
      ⟨⟨.mv (.slot 128), some 10, none⟩, []⟩])
    (.seq (.region false [⟨⟨.mv (.slot 0), some 129, none⟩, []⟩,
      ⟨⟨.mv (.slot 1), some 130, none⟩, []⟩,
      ⟨⟨.mv (.slot 16), some 131, none⟩, []⟩,
      ⟨⟨.mv (.slot 3), some 132, none⟩, []⟩,
      ⟨⟨.mv (.slot 4), some 133, none⟩, []⟩,
      ⟨⟨.call (.const (.func 83 [] [])) [(.slot 129), (.slot 130), (.slot 131), (.slot 132), (.slot 133)], some 134, none⟩, []⟩])
    (.region false [⟨⟨.mv (.slot 16), some 135, none⟩, []⟩,
      ⟨⟨.bin .add 3 .num (.slot 135) (.const (.int .i64 (.ofNat 1))), some 136, none⟩, []⟩,
      ⟨⟨.mv (.slot 136), some 1, none⟩, []⟩])))
    (.seq (.region false [⟨⟨.mv (.slot 19), some 137, none⟩, []⟩,
      ⟨⟨.mv (.slot 20), some 138, none⟩, []⟩,
      ⟨⟨.bin .geq 3 .num (.slot 137) (.slot 138), some 139, none⟩, []⟩,
      ⟨⟨.mv (.slot 139), some 10, none⟩, []⟩])
    (.seq (.region false [⟨⟨.mv (.slot 0), some 140, none⟩, []⟩,
      ⟨⟨.mv (.slot 16), some 141, none⟩, []⟩,
      ⟨⟨.bin .add 3 .num (.slot 141) (.const (.int .i64 (.ofNat 1))), some 142, none⟩, []⟩,
      ⟨⟨.mv (.slot 2), some 143, none⟩, []⟩,
      ⟨⟨.mv (.slot 3), some 144, none⟩, []⟩,
      ⟨⟨.mv (.slot 4), some 145, none⟩, []⟩,
      ⟨⟨.call (.const (.func 83 [] [])) [(.slot 140), (.slot 142), (.slot 143), (.slot 144), (.slot 145)], some 146, none⟩, []⟩])
    (.region false [⟨⟨.mv (.slot 16), some 147, none⟩, []⟩,
      ⟨⟨.mv (.slot 147), some 2, none⟩, []⟩])))))))))))))))))))))),
  []⟩
theorem xf83_ok : compFunc Try.prog Try.f83 = some xf83 := by kernel_rfl
end Go.Proofs.Yteeidjmjeefpnaa

/- The functions of the program in X's code, printed by a program of ours; each is what the program's own is turned to. -/
import Derived.Test.YteeidjmjeefpnaaProg
import Derived.Test.YteeidjmjeefpnaaXc
import Derived.KernelRfl
namespace Go.Proofs.Yteeidjmjeefpnaa
open Go.Xr
/-- gosem.cut.init -/
def xf2 : XFunc := ⟨(.region false [⟨⟨.call (.const (.func 1 [] [])) [], some 0, none⟩, []⟩]),
  []⟩
theorem xf2_ok : compFunc Try.prog Try.f2 = some xf2 := by kernel_rfl
/-- threshing/threshinglaw06.CheckRuns -/
def xf3 : XFunc := ⟨(.seq (.region false [⟨⟨.box (.slot 0), some 2, none⟩, []⟩,
    ⟨⟨.mv (.const (.bool false)), some 4, none⟩, []⟩])
  (.seq (.seq (.region false [⟨⟨.load true 2 (.slot 2), some 11, none⟩, []⟩,
    ⟨⟨.mv (.slot 1), some 12, none⟩, []⟩,
    ⟨⟨.call (.const (.func 8 [] [])) [(.slot 11), (.slot 12)], some 13, none⟩, []⟩])
  (.cond (.slot 13)
   (.seq (.region false [⟨⟨.call (.const (.func 9 [] [])) [], some 14, none⟩, []⟩,
     ⟨⟨.mv (.slot 14), some 4, none⟩, []⟩])
   .ret)
   .skip))
  (.seq (.region false [⟨⟨.load true 2 (.slot 2), some 16, none⟩, []⟩,
    ⟨⟨.mv (.slot 1), some 17, none⟩, []⟩,
    ⟨⟨.call (.const (.func 10 [] [])) [(.slot 16), (.slot 17)], some 18, none⟩, []⟩,
    ⟨⟨.mv (.slot 18), some 15, none⟩, []⟩,
    ⟨⟨.extract (.slot 15) 0, some 19, none⟩, []⟩,
    ⟨⟨.extract (.slot 15) 1, some 20, none⟩, []⟩,
    ⟨⟨.extract (.slot 15) 2, some 21, none⟩, []⟩,
    ⟨⟨.mv (.slot 19), some 5, none⟩, []⟩,
    ⟨⟨.mv (.slot 20), some 6, none⟩, []⟩,
    ⟨⟨.mv (.slot 21), some 7, none⟩, []⟩])
  (.seq (.region false [⟨⟨.load true 2 (.slot 2), some 23, none⟩, []⟩,
    ⟨⟨.mv (.slot 1), some 24, none⟩, []⟩,
    ⟨⟨.call (.const (.func 11 [] [])) [(.slot 23), (.slot 24)], some 25, none⟩, []⟩,
    ⟨⟨.mv (.slot 25), some 22, none⟩, []⟩,
    ⟨⟨.extract (.slot 22) 0, some 26, none⟩, []⟩,
    ⟨⟨.extract (.slot 22) 1, some 27, none⟩, []⟩,
    ⟨⟨.extract (.slot 22) 2, some 28, none⟩, []⟩,
    ⟨⟨.mv (.slot 26), some 8, none⟩, []⟩,
    ⟨⟨.mv (.slot 27), some 9, none⟩, []⟩,
    ⟨⟨.mv (.slot 28), some 10, none⟩, []⟩])
  (.seq (.region false [⟨⟨.mv (.slot 5), some 29, none⟩, []⟩,
    ⟨⟨.mv (.slot 8), some 30, none⟩, []⟩,
    ⟨⟨.bin .eql 4 .bool (.slot 29) (.slot 30), some 31, none⟩, []⟩,
    ⟨⟨.mv (.slot 31), some 32, none⟩, []⟩,
    ⟨⟨.mv (.slot 6), some 33, some (32, true)⟩, []⟩,
    ⟨⟨.mv (.slot 9), some 34, some (32, true)⟩, []⟩,
    ⟨⟨.bin .eql 3 .num (.slot 33) (.slot 34), some 35, some (32, true)⟩, []⟩,
    ⟨⟨.pick (.slot 32) (.slot 35) (.const (.bool false)), some 36, none⟩, []⟩,
    ⟨⟨.mv (.slot 36), some 37, none⟩, []⟩,
    ⟨⟨.mv (.slot 7), some 38, some (37, true)⟩, []⟩,
    ⟨⟨.mv (.slot 10), some 39, some (37, true)⟩, []⟩,
    ⟨⟨.bin .eql 28 .num (.slot 38) (.slot 39), some 40, some (37, true)⟩, []⟩,
    ⟨⟨.pick (.slot 37) (.slot 40) (.const (.bool false)), some 41, none⟩, []⟩,
    ⟨⟨.mv (.slot 41), some 42, none⟩, []⟩,
    ⟨⟨.call (.const (.func 9 [] [])) [], some 43, some (42, true)⟩, []⟩,
    ⟨⟨.pick (.slot 42) (.slot 43) (.const (.bool false)), some 44, none⟩, []⟩,
    ⟨⟨.mv (.slot 44), some 4, none⟩, []⟩])
  .ret))))),
  [.tmp 4]⟩
theorem xf3_ok : compFunc Try.prog Try.f3 = some xf3 := by kernel_rfl
/-- threshing/threshinglaw06.CheckImplies -/
def xf4 : XFunc := ⟨(.seq (.region false [⟨⟨.box (.slot 0), some 3, none⟩, []⟩,
    ⟨⟨.mv (.const (.bool false)), some 6, none⟩, []⟩])
  (.seq (.region false [⟨⟨.faddr 1 (.slot 3), some 12, none⟩, []⟩,
    ⟨⟨.load false 1 (.slot 12), some 13, none⟩, []⟩,
    ⟨⟨.len .slice (.slot 13), some 14, none⟩, []⟩,
    ⟨⟨.bin .add 2 .num (.slot 14) (.const (.int .i64 (.ofNat 1))), some 15, none⟩, []⟩,
    ⟨⟨.mv (.slot 1), some 16, none⟩, []⟩,
    ⟨⟨.mv (.slot 2), some 17, none⟩, []⟩,
    ⟨⟨.call (.const (.func 12 [] [])) [(.slot 15), (.slot 16), (.slot 17)], some 18, none⟩, []⟩,
    ⟨⟨.bslice 4 [(.int .u8 (.ofNat 0)), (.int .i64 (.ofNat 0)), .nils, .nils] [(0, 4, (.slot 18))] 1, some 19, none⟩, []⟩,
    ⟨⟨.mv (.slot 19), some 7, none⟩, []⟩])
  (.seq (.seq (.region false [⟨⟨.load true 2 (.slot 3), some 20, none⟩, []⟩,
    ⟨⟨.mv (.slot 7), some 21, none⟩, []⟩,
    ⟨⟨.call (.const (.func 8 [] [])) [(.slot 20), (.slot 21)], some 22, none⟩, []⟩,
    ⟨⟨.mv (.slot 22), some 23, none⟩, []⟩,
    ⟨⟨.faddr 0 (.slot 3), some 24, some (23, false)⟩, []⟩,
    ⟨⟨.load false 1 (.slot 24), some 25, some (23, false)⟩, []⟩,
    ⟨⟨.bin .gtr 3 .num (.slot 25) (.const (.int .i64 (.ofNat 8))), some 26, some (23, false)⟩, []⟩,
    ⟨⟨.pick (.slot 23) (.const (.bool true)) (.slot 26), some 27, none⟩, []⟩,
    ⟨⟨.mv (.slot 27), some 28, none⟩, []⟩,
    ⟨⟨.faddr 1 (.slot 3), some 29, some (28, false)⟩, []⟩,
    ⟨⟨.load false 1 (.slot 29), some 30, some (28, false)⟩, []⟩,
    ⟨⟨.len .slice (.slot 30), some 31, some (28, false)⟩, []⟩,
    ⟨⟨.bin .gtr 3 .num (.slot 31) (.const (.int .i64 (.ofNat 60))), some 32, some (28, false)⟩, []⟩,
    ⟨⟨.pick (.slot 28) (.const (.bool true)) (.slot 32), some 33, none⟩, []⟩,
    ⟨⟨.mv (.slot 33), some 34, none⟩, []⟩,
    ⟨⟨.mv (.slot 2), some 35, some (34, false)⟩, []⟩,
    ⟨⟨.call (.const (.func 13 [] [])) [(.slot 35)], some 36, some (34, false)⟩, []⟩,
    ⟨⟨.un .not (.slot 36), some 37, some (34, false)⟩, []⟩,
    ⟨⟨.pick (.slot 34) (.const (.bool true)) (.slot 37), some 38, none⟩, []⟩])
  (.cond (.slot 38)
   (.seq (.region false [⟨⟨.call (.const (.func 9 [] [])) [], some 39, none⟩, []⟩,
     ⟨⟨.mv (.slot 39), some 6, none⟩, []⟩])
   .ret)
   .skip))
  (.seq (.region false [⟨⟨.load true 2 (.slot 3), some 41, none⟩, []⟩,
    ⟨⟨.call (.const (.func 14 [] [])) [(.slot 41)], some 42, none⟩, []⟩,
    ⟨⟨.mv (.slot 42), some 40, none⟩, []⟩,
    ⟨⟨.extract (.slot 40) 0, some 43, none⟩, []⟩,
    ⟨⟨.extract (.slot 40) 1, some 44, none⟩, []⟩,
    ⟨⟨.mv (.slot 43), some 8, none⟩, []⟩,
    ⟨⟨.mv (.slot 44), some 9, none⟩, []⟩])
  (.seq (.seq (.region false [⟨⟨.mv (.slot 9), some 45, none⟩, []⟩,
    ⟨⟨.bin .neq 28 .num (.slot 45) (.const (.int .i64 (.ofNat 0))), some 46, none⟩, []⟩,
    ⟨⟨.mv (.slot 46), some 47, none⟩, []⟩,
    ⟨⟨.mv (.slot 8), some 48, some (47, false)⟩, []⟩,
    ⟨⟨.mv (.slot 7), some 49, some (47, false)⟩, []⟩,
    ⟨⟨.iaddr 4 (.slot 49) (.const (.int .i64 (.ofNat 0))), some 50, some (47, false)⟩, []⟩,
    ⟨⟨.load true 4 (.slot 50), some 51, some (47, false)⟩, []⟩,
    ⟨⟨.call (.const (.func 15 [] [])) [(.slot 48), (.slot 51)], some 52, some (47, false)⟩, []⟩,
    ⟨⟨.bin .neq 28 .num (.slot 52) (.const (.int .i64 (.ofNat 0))), some 53, some (47, false)⟩, []⟩,
    ⟨⟨.pick (.slot 47) (.const (.bool true)) (.slot 53), some 54, none⟩, []⟩])
  (.cond (.slot 54)
   (.seq (.region false [⟨⟨.call (.const (.func 9 [] [])) [], some 55, none⟩, []⟩,
     ⟨⟨.mv (.slot 55), some 6, none⟩, []⟩])
   .ret)
   .skip))
  (.seq (.seq (.region false [⟨⟨.mv (.const (.int .i64 (.ofNat 0))), some 10, none⟩, []⟩])
  (.block 0 (.loop (.seq (.seq (.region false [⟨⟨.mv (.slot 10), some 56, none⟩, []⟩,
     ⟨⟨.faddr 0 (.slot 3), some 57, none⟩, []⟩,
     ⟨⟨.load false 1 (.slot 57), some 58, none⟩, []⟩,
     ⟨⟨.bin .shl 3 .num (.const (.int .i64 (.ofNat 1))) (.slot 58), some 59, none⟩, []⟩,
     ⟨⟨.bin .lss 3 .num (.slot 56) (.slot 59), some 60, none⟩, []⟩])
   (.cond (.slot 60)
    .skip
    (.exit 0)))
   (.seq (.block 1 (.seq (.region false [⟨⟨.faddr 0 (.slot 3), some 63, none⟩, []⟩,
     ⟨⟨.load false 1 (.slot 63), some 64, none⟩, []⟩,
     ⟨⟨.mv (.slot 10), some 65, none⟩, []⟩,
     ⟨⟨.call (.const (.func 16 [] [])) [(.slot 64), (.slot 65)], some 66, none⟩, []⟩,
     ⟨⟨.mv (.slot 66), some 11, none⟩, []⟩])
   (.seq (.region false [⟨⟨.load true 2 (.slot 3), some 67, none⟩, []⟩,
     ⟨⟨.mv (.slot 11), some 68, none⟩, []⟩,
     ⟨⟨.call (.const (.func 17 [] [])) [(.slot 67), (.slot 68)], some 69, none⟩, []⟩,
     ⟨⟨.mv (.slot 69), some 70, none⟩, []⟩,
     ⟨⟨.mv (.slot 1), some 71, some (70, true)⟩, []⟩,
     ⟨⟨.mv (.slot 11), some 72, some (70, true)⟩, []⟩,
     ⟨⟨.call (.const (.func 18 [] [])) [(.slot 71), (.slot 72)], some 73, some (70, true)⟩, []⟩,
     ⟨⟨.un .not (.slot 73), some 74, some (70, true)⟩, []⟩,
     ⟨⟨.pick (.slot 70) (.slot 74) (.const (.bool false)), some 75, none⟩, []⟩,
     ⟨⟨.mv (.slot 75), some 76, none⟩, []⟩,
     ⟨⟨.mv (.slot 1), some 77, some (76, true)⟩, []⟩,
     ⟨⟨.faddr 0 (.slot 3), some 78, some (76, true)⟩, []⟩,
     ⟨⟨.load false 1 (.slot 78), some 79, some (76, true)⟩, []⟩,
     ⟨⟨.call (.const (.func 19 [] [])) [(.slot 77), (.slot 79)], some 80, some (76, true)⟩, []⟩,
     ⟨⟨.pick (.slot 76) (.slot 80) (.const (.bool false)), some 81, none⟩, []⟩,
     ⟨⟨.mv (.slot 81), some 82, none⟩, []⟩,
     ⟨⟨.load true 2 (.slot 3), some 83, some (82, true)⟩, []⟩,
     ⟨⟨.mv (.slot 1), some 84, some (82, true)⟩, []⟩,
     ⟨⟨.call (.const (.func 20 [] [])) [(.slot 83), (.slot 84)], some 85, some (82, true)⟩, []⟩,
     ⟨⟨.un .not (.slot 85), some 86, some (82, true)⟩, []⟩,
     ⟨⟨.pick (.slot 82) (.slot 86) (.const (.bool false)), some 87, none⟩, []⟩])
   (.cond (.slot 87)
    (.seq (.region false [⟨⟨.mv (.const (.bool false)), some 6, none⟩, []⟩])
    .ret)
    .skip))))
   (.region false [⟨⟨.mv (.slot 10), some 61, none⟩, []⟩,
     ⟨⟨.bin .add 3 .num (.slot 61) (.const (.int .i64 (.ofNat 1))), some 62, none⟩, []⟩,
     ⟨⟨.mv (.slot 62), some 10, none⟩, []⟩]))))))
  (.seq (.region false [⟨⟨.call (.const (.func 9 [] [])) [], some 88, none⟩, []⟩,
    ⟨⟨.mv (.slot 88), some 6, none⟩, []⟩])
  .ret))))))),
  [.tmp 6]⟩
theorem xf4_ok : compFunc Try.prog Try.f4 = some xf4 := by kernel_rfl
/-- threshing/threshinglaw06.CheckSets -/
def xf5 : XFunc := ⟨(.seq (.region false [⟨⟨.box (.slot 0), some 2, none⟩, []⟩,
    ⟨⟨.mv (.const (.bool false)), some 4, none⟩, []⟩])
  (.seq (.seq (.region false [⟨⟨.load true 2 (.slot 2), some 18, none⟩, []⟩,
    ⟨⟨.mv (.slot 1), some 19, none⟩, []⟩,
    ⟨⟨.call (.const (.func 8 [] [])) [(.slot 18), (.slot 19)], some 20, none⟩, []⟩])
  (.cond (.slot 20)
   (.seq (.region false [⟨⟨.call (.const (.func 9 [] [])) [], some 21, none⟩, []⟩,
     ⟨⟨.mv (.slot 21), some 4, none⟩, []⟩])
   .ret)
   .skip))
  (.seq (.region false [⟨⟨.faddr 0 (.slot 2), some 22, none⟩, []⟩,
    ⟨⟨.load false 1 (.slot 22), some 23, none⟩, []⟩,
    ⟨⟨.build [(.int .i64 (.ofNat 0)), .nils] [(0, 1, (.slot 23))], some 24, none⟩, []⟩,
    ⟨⟨.alloc [(.int .i64 (.ofNat 0)), .nils], some 5, none⟩, []⟩,
    ⟨⟨.store 2 (.slot 5) (.slot 24), none, none⟩, []⟩])
  (.seq (.seq (.region false [⟨⟨.mv (.const (.int .i64 (.ofNat 0))), some 6, none⟩, []⟩])
  (.block 0 (.loop (.seq (.seq (.region false [⟨⟨.mv (.slot 6), some 25, none⟩, []⟩,
     ⟨⟨.faddr 1 (.slot 2), some 26, none⟩, []⟩,
     ⟨⟨.load false 1 (.slot 26), some 27, none⟩, []⟩,
     ⟨⟨.len .slice (.slot 27), some 28, none⟩, []⟩,
     ⟨⟨.bin .lss 3 .num (.slot 25) (.slot 28), some 29, none⟩, []⟩])
   (.cond (.slot 29)
    .skip
    (.exit 0)))
   (.seq (.block 1 (.region true [⟨⟨.faddr 1 (.slot 5), some 32, none⟩, []⟩,
     ⟨⟨.load false 1 (.slot 32), some 33, none⟩, []⟩,
     ⟨⟨.faddr 1 (.slot 2), some 34, none⟩, []⟩,
     ⟨⟨.load false 1 (.slot 34), some 35, none⟩, []⟩,
     ⟨⟨.mv (.slot 6), some 36, none⟩, []⟩,
     ⟨⟨.iaddr 1 (.slot 35) (.slot 36), some 37, none⟩, []⟩,
     ⟨⟨.load false 1 (.slot 37), some 38, none⟩, []⟩,
     ⟨⟨.call (.const (.func 21 [] [])) [(.slot 38)], some 39, none⟩, [⟨.load false 1 (.slot 32), some 33, none⟩]⟩,
     ⟨⟨.bslice 1 [.nils] [(0, 1, (.slot 39))] 1, some 40, none⟩, [⟨.load false 1 (.slot 32), some 33, none⟩]⟩,
     ⟨⟨.append 1 24 (.slot 33) (.slot 40), some 41, none⟩, []⟩,
     ⟨⟨.faddr 1 (.slot 5), some 42, none⟩, []⟩,
     ⟨⟨.store 1 (.slot 42) (.slot 41), none, none⟩, []⟩]))
   (.region false [⟨⟨.mv (.slot 6), some 30, none⟩, []⟩,
     ⟨⟨.bin .add 3 .num (.slot 30) (.const (.int .i64 (.ofNat 1))), some 31, none⟩, []⟩,
     ⟨⟨.mv (.slot 31), some 6, none⟩, []⟩]))))))
  (.seq (.region false [⟨⟨.load true 2 (.slot 2), some 44, none⟩, []⟩,
    ⟨⟨.call (.const (.func 14 [] [])) [(.slot 44)], some 45, none⟩, []⟩,
    ⟨⟨.mv (.slot 45), some 43, none⟩, []⟩,
    ⟨⟨.extract (.slot 43) 0, some 46, none⟩, []⟩,
    ⟨⟨.extract (.slot 43) 1, some 47, none⟩, []⟩,
    ⟨⟨.mv (.slot 46), some 7, none⟩, []⟩,
    ⟨⟨.mv (.slot 47), some 8, none⟩, []⟩])
  (.seq (.region false [⟨⟨.load true 2 (.slot 5), some 49, none⟩, []⟩,
    ⟨⟨.call (.const (.func 14 [] [])) [(.slot 49)], some 50, none⟩, []⟩,
    ⟨⟨.mv (.slot 50), some 48, none⟩, []⟩,
    ⟨⟨.extract (.slot 48) 0, some 51, none⟩, []⟩,
    ⟨⟨.extract (.slot 48) 1, some 52, none⟩, []⟩,
    ⟨⟨.mv (.slot 51), some 9, none⟩, []⟩,
    ⟨⟨.mv (.slot 52), some 10, none⟩, []⟩])
  (.seq (.seq (.region false [⟨⟨.mv (.slot 8), some 53, none⟩, []⟩,
    ⟨⟨.mv (.slot 10), some 54, none⟩, []⟩,
    ⟨⟨.bin .neq 28 .num (.slot 53) (.slot 54), some 55, none⟩, []⟩])
  (.cond (.slot 55)
   (.seq (.region false [⟨⟨.mv (.const (.bool false)), some 4, none⟩, []⟩])
   .ret)
   .skip))
  (.seq (.seq (.region false [⟨⟨.mv (.const (.int .i64 (.ofNat 0))), some 11, none⟩, []⟩])
  (.block 2 (.loop (.seq (.seq (.region false [⟨⟨.mv (.slot 11), some 56, none⟩, []⟩,
     ⟨⟨.mv (.slot 1), some 57, none⟩, []⟩,
     ⟨⟨.len .slice (.slot 57), some 58, none⟩, []⟩,
     ⟨⟨.bin .lss 3 .num (.slot 56) (.slot 58), some 59, none⟩, []⟩,
     ⟨⟨.mv (.slot 59), some 60, none⟩, []⟩,
     ⟨⟨.mv (.slot 8), some 61, some (60, true)⟩, []⟩,
     ⟨⟨.bin .eql 28 .num (.slot 61) (.const (.int .i64 (.ofNat 0))), some 62, some (60, true)⟩, []⟩,
     ⟨⟨.pick (.slot 60) (.slot 62) (.const (.bool false)), some 63, none⟩, []⟩])
   (.cond (.slot 63)
    .skip
    (.exit 2)))
   (.seq (.block 3 (.seq (.region false [⟨⟨.mv (.slot 1), some 66, none⟩, []⟩,
     ⟨⟨.mv (.slot 11), some 67, none⟩, []⟩,
     ⟨⟨.iaddr 4 (.slot 66) (.slot 67), some 68, none⟩, []⟩,
     ⟨⟨.load true 4 (.slot 68), some 69, none⟩, []⟩,
     ⟨⟨.alloc [(.int .u8 (.ofNat 0)), (.int .i64 (.ofNat 0)), .nils, .nils], some 12, none⟩, []⟩,
     ⟨⟨.store 4 (.slot 12) (.slot 69), none, none⟩, []⟩])
   (.seq (.region false [⟨⟨.faddr 2 (.slot 12), some 70, none⟩, []⟩,
     ⟨⟨.load false 1 (.slot 70), some 71, none⟩, []⟩,
     ⟨⟨.call (.const (.func 21 [] [])) [(.slot 71)], some 72, none⟩, []⟩,
     ⟨⟨.faddr 2 (.slot 12), some 73, none⟩, []⟩,
     ⟨⟨.store 1 (.slot 73) (.slot 72), none, none⟩, []⟩])
   (.seq (.region true [⟨⟨.mv (.slot 7), some 74, none⟩, []⟩,
     ⟨⟨.mv (.slot 1), some 75, none⟩, []⟩,
     ⟨⟨.mv (.slot 11), some 76, none⟩, []⟩,
     ⟨⟨.iaddr 4 (.slot 75) (.slot 76), some 77, none⟩, []⟩,
     ⟨⟨.load true 4 (.slot 77), some 78, none⟩, []⟩,
     ⟨⟨.mv (.slot 9), some 80, none⟩, []⟩,
     ⟨⟨.load true 4 (.slot 12), some 81, none⟩, []⟩,
     ⟨⟨.call (.const (.func 15 [] [])) [(.slot 74), (.slot 78)], some 79, none⟩, [⟨.load true 4 (.slot 12), some 81, none⟩]⟩,
     ⟨⟨.call (.const (.func 15 [] [])) [(.slot 80), (.slot 81)], some 82, none⟩, []⟩,
     ⟨⟨.mv (.slot 79), some 13, none⟩, []⟩,
     ⟨⟨.mv (.slot 82), some 14, none⟩, []⟩])
   (.seq (.region false [⟨⟨.mv (.slot 7), some 83, none⟩, []⟩,
     ⟨⟨.call (.const (.func 22 [] [])) [(.slot 83)], some 84, none⟩, []⟩,
     ⟨⟨.mv (.slot 9), some 85, none⟩, []⟩,
     ⟨⟨.call (.const (.func 22 [] [])) [(.slot 85)], some 86, none⟩, []⟩,
     ⟨⟨.mv (.slot 84), some 15, none⟩, []⟩,
     ⟨⟨.mv (.slot 86), some 16, none⟩, []⟩])
   (.seq (.seq (.region false [⟨⟨.mv (.slot 13), some 87, none⟩, []⟩,
     ⟨⟨.mv (.slot 14), some 88, none⟩, []⟩,
     ⟨⟨.bin .neq 28 .num (.slot 87) (.slot 88), some 89, none⟩, []⟩,
     ⟨⟨.mv (.slot 89), some 90, none⟩, []⟩,
     ⟨⟨.mv (.slot 7), some 91, some (90, false)⟩, []⟩,
     ⟨⟨.call (.const (.func 23 [] [])) [(.slot 91)], some 92, some (90, false)⟩, []⟩,
     ⟨⟨.mv (.slot 9), some 93, some (90, false)⟩, []⟩,
     ⟨⟨.call (.const (.func 23 [] [])) [(.slot 93)], some 94, some (90, false)⟩, []⟩,
     ⟨⟨.bin .neq 4 .bool (.slot 92) (.slot 94), some 95, some (90, false)⟩, []⟩,
     ⟨⟨.pick (.slot 90) (.const (.bool true)) (.slot 95), some 96, none⟩, []⟩,
     ⟨⟨.mv (.slot 96), some 97, none⟩, []⟩,
     ⟨⟨.mv (.slot 15), some 98, some (97, false)⟩, []⟩,
     ⟨⟨.len .slice (.slot 98), some 99, some (97, false)⟩, []⟩,
     ⟨⟨.mv (.slot 16), some 100, some (97, false)⟩, []⟩,
     ⟨⟨.len .slice (.slot 100), some 101, some (97, false)⟩, []⟩,
     ⟨⟨.bin .neq 3 .num (.slot 99) (.slot 101), some 102, some (97, false)⟩, []⟩,
     ⟨⟨.pick (.slot 97) (.const (.bool true)) (.slot 102), some 103, none⟩, []⟩])
   (.cond (.slot 103)
    (.seq (.region false [⟨⟨.mv (.const (.bool false)), some 4, none⟩, []⟩])
    .ret)
    .skip))
   (.seq (.region false [⟨⟨.mv (.const (.int .i64 (.ofNat 0))), some 17, none⟩, []⟩])
   (.block 4 (.loop (.seq (.seq (.region false [⟨⟨.mv (.slot 17), some 104, none⟩, []⟩,
      ⟨⟨.mv (.slot 15), some 105, none⟩, []⟩,
      ⟨⟨.len .slice (.slot 105), some 106, none⟩, []⟩,
      ⟨⟨.bin .lss 3 .num (.slot 104) (.slot 106), some 107, none⟩, []⟩])
    (.cond (.slot 107)
     .skip
     (.exit 4)))
    (.seq (.block 5 (.seq (.region true [⟨⟨.mv (.slot 15), some 110, none⟩, []⟩,
      ⟨⟨.mv (.slot 17), some 111, none⟩, []⟩,
      ⟨⟨.iaddr 1 (.slot 110) (.slot 111), some 112, none⟩, []⟩,
      ⟨⟨.load false 1 (.slot 112), some 113, none⟩, []⟩,
      ⟨⟨.mv (.slot 16), some 114, none⟩, []⟩,
      ⟨⟨.mv (.slot 17), some 115, none⟩, []⟩,
      ⟨⟨.iaddr 1 (.slot 114) (.slot 115), some 116, none⟩, []⟩,
      ⟨⟨.load false 1 (.slot 116), some 117, none⟩, []⟩,
      ⟨⟨.bin .neq 2 .num (.slot 113) (.slot 117), some 118, none⟩, []⟩])
    (.cond (.slot 118)
     (.seq (.region false [⟨⟨.mv (.const (.bool false)), some 4, none⟩, []⟩])
     .ret)
     .skip)))
    (.region false [⟨⟨.mv (.slot 17), some 108, none⟩, []⟩,
      ⟨⟨.bin .add 3 .num (.slot 108) (.const (.int .i64 (.ofNat 1))), some 109, none⟩, []⟩,
      ⟨⟨.mv (.slot 109), some 17, none⟩, []⟩]))))))))))))
   (.region false [⟨⟨.mv (.slot 11), some 64, none⟩, []⟩,
     ⟨⟨.bin .add 3 .num (.slot 64) (.const (.int .i64 (.ofNat 1))), some 65, none⟩, []⟩,
     ⟨⟨.mv (.slot 65), some 11, none⟩, []⟩]))))))
  (.seq (.region false [⟨⟨.call (.const (.func 9 [] [])) [], some 119, none⟩, []⟩,
    ⟨⟨.mv (.slot 119), some 4, none⟩, []⟩])
  .ret))))))))),
  [.tmp 4]⟩
theorem xf5_ok : compFunc Try.prog Try.f5 = some xf5 := by kernel_rfl
/-- threshing/threshinglaw06.CheckSound -/
def xf6 : XFunc := ⟨(.seq (.region false [⟨⟨.box (.slot 0), some 2, none⟩, []⟩,
    ⟨⟨.mv (.const (.bool false)), some 4, none⟩, []⟩])
  (.seq (.seq (.region false [⟨⟨.load true 2 (.slot 2), some 18, none⟩, []⟩,
    ⟨⟨.mv (.slot 1), some 19, none⟩, []⟩,
    ⟨⟨.call (.const (.func 8 [] [])) [(.slot 18), (.slot 19)], some 20, none⟩, []⟩,
    ⟨⟨.mv (.slot 20), some 21, none⟩, []⟩,
    ⟨⟨.load true 2 (.slot 2), some 22, some (21, false)⟩, []⟩,
    ⟨⟨.mv (.slot 1), some 23, some (21, false)⟩, []⟩,
    ⟨⟨.call (.const (.func 24 [] [])) [(.slot 22), (.slot 23)], some 24, some (21, false)⟩, []⟩,
    ⟨⟨.un .not (.slot 24), some 25, some (21, false)⟩, []⟩,
    ⟨⟨.pick (.slot 21) (.const (.bool true)) (.slot 25), some 26, none⟩, []⟩,
    ⟨⟨.mv (.slot 26), some 27, none⟩, []⟩,
    ⟨⟨.mv (.slot 1), some 28, some (27, false)⟩, []⟩,
    ⟨⟨.len .slice (.slot 28), some 29, some (27, false)⟩, []⟩,
    ⟨⟨.bin .gtr 3 .num (.slot 29) (.const (.int .i64 (.ofNat 60))), some 30, some (27, false)⟩, []⟩,
    ⟨⟨.pick (.slot 27) (.const (.bool true)) (.slot 30), some 31, none⟩, []⟩,
    ⟨⟨.mv (.slot 31), some 32, none⟩, []⟩,
    ⟨⟨.faddr 1 (.slot 2), some 33, some (32, false)⟩, []⟩,
    ⟨⟨.load false 1 (.slot 33), some 34, some (32, false)⟩, []⟩,
    ⟨⟨.len .slice (.slot 34), some 35, some (32, false)⟩, []⟩,
    ⟨⟨.bin .gtr 3 .num (.slot 35) (.const (.int .i64 (.ofNat 60))), some 36, some (32, false)⟩, []⟩,
    ⟨⟨.pick (.slot 32) (.const (.bool true)) (.slot 36), some 37, none⟩, []⟩])
  (.cond (.slot 37)
   (.seq (.region false [⟨⟨.call (.const (.func 9 [] [])) [], some 38, none⟩, []⟩,
     ⟨⟨.mv (.slot 38), some 4, none⟩, []⟩])
   .ret)
   .skip))
  (.seq (.region false [⟨⟨.load true 2 (.slot 2), some 40, none⟩, []⟩,
    ⟨⟨.call (.const (.func 14 [] [])) [(.slot 40)], some 41, none⟩, []⟩,
    ⟨⟨.mv (.slot 41), some 39, none⟩, []⟩,
    ⟨⟨.extract (.slot 39) 0, some 42, none⟩, []⟩,
    ⟨⟨.extract (.slot 39) 1, some 43, none⟩, []⟩,
    ⟨⟨.mv (.slot 42), some 5, none⟩, []⟩,
    ⟨⟨.mv (.slot 43), some 6, none⟩, []⟩])
  (.seq (.seq (.region false [⟨⟨.mv (.slot 6), some 44, none⟩, []⟩,
    ⟨⟨.bin .neq 28 .num (.slot 44) (.const (.int .i64 (.ofNat 0))), some 45, none⟩, []⟩])
  (.cond (.slot 45)
   (.seq (.region false [⟨⟨.call (.const (.func 9 [] [])) [], some 46, none⟩, []⟩,
     ⟨⟨.mv (.slot 46), some 4, none⟩, []⟩])
   .ret)
   .skip))
  (.seq (.region false [⟨⟨.load true 2 (.slot 2), some 48, none⟩, []⟩,
    ⟨⟨.call (.const (.func 25 [] [])) [(.slot 48)], some 49, none⟩, []⟩,
    ⟨⟨.mv (.slot 49), some 47, none⟩, []⟩,
    ⟨⟨.extract (.slot 47) 0, some 50, none⟩, []⟩,
    ⟨⟨.extract (.slot 47) 1, some 51, none⟩, []⟩,
    ⟨⟨.extract (.slot 47) 2, some 52, none⟩, []⟩,
    ⟨⟨.mv (.slot 50), some 7, none⟩, []⟩,
    ⟨⟨.mv (.slot 51), some 8, none⟩, []⟩,
    ⟨⟨.mv (.slot 52), some 9, none⟩, []⟩])
  (.seq (.seq (.region false [⟨⟨.mv (.slot 9), some 53, none⟩, []⟩,
    ⟨⟨.bin .neq 28 .num (.slot 53) (.const (.int .i64 (.ofNat 0))), some 54, none⟩, []⟩])
  (.cond (.slot 54)
   (.seq (.region false [⟨⟨.mv (.const (.bool false)), some 4, none⟩, []⟩])
   .ret)
   .skip))
  (.seq (.seq (.region false [⟨⟨.mv (.const (.int .i64 (.ofNat 0))), some 10, none⟩, []⟩])
  (.block 0 (.loop (.seq (.seq (.region false [⟨⟨.mv (.slot 10), some 55, none⟩, []⟩,
     ⟨⟨.mv (.slot 1), some 56, none⟩, []⟩,
     ⟨⟨.len .slice (.slot 56), some 57, none⟩, []⟩,
     ⟨⟨.bin .lss 3 .num (.slot 55) (.slot 57), some 58, none⟩, []⟩])
   (.cond (.slot 58)
    .skip
    (.exit 0)))
   (.seq (.block 1 (.seq (.region false [⟨⟨.mv (.slot 5), some 61, none⟩, []⟩,
     ⟨⟨.call (.const (.func 26 [] [])) [(.slot 61)], some 62, none⟩, []⟩,
     ⟨⟨.alloc [(.int .i64 (.ofNat 0)), .nils], some 11, none⟩, []⟩,
     ⟨⟨.store 2 (.slot 11) (.slot 62), none, none⟩, []⟩])
   (.seq (.seq (.region false [⟨⟨.mv (.slot 5), some 63, none⟩, []⟩,
     ⟨⟨.mv (.slot 1), some 64, none⟩, []⟩,
     ⟨⟨.mv (.slot 10), some 65, none⟩, []⟩,
     ⟨⟨.iaddr 4 (.slot 64) (.slot 65), some 66, none⟩, []⟩,
     ⟨⟨.load true 4 (.slot 66), some 67, none⟩, []⟩,
     ⟨⟨.call (.const (.func 15 [] [])) [(.slot 63), (.slot 67)], some 68, none⟩, []⟩,
     ⟨⟨.bin .neq 28 .num (.slot 68) (.const (.int .i64 (.ofNat 0))), some 69, none⟩, []⟩])
   (.cond (.slot 69)
    (.exit 1)
    .skip))
   (.seq (.seq (.region false [⟨⟨.mv (.slot 1), some 70, none⟩, []⟩,
     ⟨⟨.mv (.slot 10), some 71, none⟩, []⟩,
     ⟨⟨.iaddr 4 (.slot 70) (.slot 71), some 72, none⟩, []⟩,
     ⟨⟨.faddr 0 (.slot 72), some 73, none⟩, []⟩,
     ⟨⟨.load false 1 (.slot 73), some 74, none⟩, []⟩,
     ⟨⟨.bin .eql 5 .num (.slot 74) (.const (.int .u8 (.ofNat 1))), some 75, none⟩, []⟩,
     ⟨⟨.mv (.slot 75), some 76, none⟩, []⟩,
     ⟨⟨.mv (.slot 1), some 77, some (76, true)⟩, []⟩,
     ⟨⟨.mv (.slot 10), some 78, some (76, true)⟩, []⟩,
     ⟨⟨.iaddr 4 (.slot 77) (.slot 78), some 79, some (76, true)⟩, []⟩,
     ⟨⟨.faddr 3 (.slot 79), some 80, some (76, true)⟩, []⟩,
     ⟨⟨.load false 1 (.slot 80), some 81, some (76, true)⟩, []⟩,
     ⟨⟨.call (.const (.func 13 [] [])) [(.slot 81)], some 82, some (76, true)⟩, []⟩,
     ⟨⟨.pick (.slot 76) (.slot 82) (.const (.bool false)), some 83, none⟩, []⟩,
     ⟨⟨.mv (.slot 83), some 84, none⟩, []⟩,
     ⟨⟨.mv (.slot 1), some 85, some (84, true)⟩, []⟩,
     ⟨⟨.mv (.slot 10), some 86, some (84, true)⟩, []⟩,
     ⟨⟨.iaddr 4 (.slot 85) (.slot 86), some 87, some (84, true)⟩, []⟩,
     ⟨⟨.faddr 3 (.slot 87), some 88, some (84, true)⟩, []⟩,
     ⟨⟨.load false 1 (.slot 88), some 89, some (84, true)⟩, []⟩,
     ⟨⟨.len .slice (.slot 89), some 90, some (84, true)⟩, []⟩,
     ⟨⟨.bin .gtr 3 .num (.slot 90) (.const (.int .i64 (.ofNat 0))), some 91, some (84, true)⟩, []⟩,
     ⟨⟨.pick (.slot 84) (.slot 91) (.const (.bool false)), some 92, none⟩, []⟩,
     ⟨⟨.mv (.slot 92), some 93, none⟩, []⟩,
     ⟨⟨.mv (.slot 5), some 94, some (93, true)⟩, []⟩,
     ⟨⟨.call (.const (.func 23 [] [])) [(.slot 94)], some 95, some (93, true)⟩, []⟩,
     ⟨⟨.pick (.slot 93) (.slot 95) (.const (.bool false)), some 96, none⟩, []⟩])
   (.cond (.slot 96)
    (.seq (.region false [⟨⟨.load true 2 (.slot 11), some 98, none⟩, []⟩,
      ⟨⟨.call (.const (.func 25 [] [])) [(.slot 98)], some 99, none⟩, []⟩,
      ⟨⟨.mv (.slot 99), some 97, none⟩, []⟩,
      ⟨⟨.extract (.slot 97) 0, some 100, none⟩, []⟩,
      ⟨⟨.extract (.slot 97) 1, some 101, none⟩, []⟩,
      ⟨⟨.extract (.slot 97) 2, some 102, none⟩, []⟩,
      ⟨⟨.mv (.slot 100), some 12, none⟩, []⟩,
      ⟨⟨.mv (.slot 101), some 13, none⟩, []⟩,
      ⟨⟨.mv (.slot 102), some 14, none⟩, []⟩])
    (.seq (.region false [⟨⟨.mv (.slot 13), some 103, none⟩, []⟩])
    (.cond (.slot 103)
     (.seq (.region false [⟨⟨.mv (.const (.bool false)), some 4, none⟩, []⟩])
     .ret)
     .skip)))
    .skip))
   (.seq (.region false [⟨⟨.mv (.slot 5), some 104, none⟩, []⟩,
     ⟨⟨.call (.const (.func 23 [] [])) [(.slot 104)], some 105, none⟩, []⟩])
   (.cond (.slot 105)
    (.seq (.region false [⟨⟨.mv (.slot 8), some 106, none⟩, []⟩,
      ⟨⟨.un .not (.slot 106), some 107, none⟩, []⟩,
      ⟨⟨.mv (.slot 107), some 108, none⟩, []⟩,
      ⟨⟨.call (.const (.func 9 [] [])) [], some 109, some (108, true)⟩, []⟩,
      ⟨⟨.pick (.slot 108) (.slot 109) (.const (.bool false)), some 110, none⟩, []⟩,
      ⟨⟨.mv (.slot 110), some 4, none⟩, []⟩])
    .ret)
    .skip))))))
   (.region false [⟨⟨.mv (.slot 10), some 59, none⟩, []⟩,
     ⟨⟨.bin .add 3 .num (.slot 59) (.const (.int .i64 (.ofNat 1))), some 60, none⟩, []⟩,
     ⟨⟨.mv (.slot 60), some 10, none⟩, []⟩]))))))
  (.seq (.region false [⟨⟨.mv (.slot 5), some 112, none⟩, []⟩,
    ⟨⟨.call (.const (.func 26 [] [])) [(.slot 112)], some 113, none⟩, []⟩,
    ⟨⟨.call (.const (.func 25 [] [])) [(.slot 113)], some 114, none⟩, []⟩,
    ⟨⟨.mv (.slot 114), some 111, none⟩, []⟩,
    ⟨⟨.extract (.slot 111) 0, some 115, none⟩, []⟩,
    ⟨⟨.extract (.slot 111) 1, some 116, none⟩, []⟩,
    ⟨⟨.extract (.slot 111) 2, some 117, none⟩, []⟩,
    ⟨⟨.mv (.slot 115), some 15, none⟩, []⟩,
    ⟨⟨.mv (.slot 116), some 16, none⟩, []⟩,
    ⟨⟨.mv (.slot 117), some 17, none⟩, []⟩])
  (.seq (.region false [⟨⟨.mv (.slot 17), some 118, none⟩, []⟩,
    ⟨⟨.bin .eql 28 .num (.slot 118) (.const (.int .i64 (.ofNat 0))), some 119, none⟩, []⟩,
    ⟨⟨.mv (.slot 119), some 120, none⟩, []⟩,
    ⟨⟨.mv (.slot 8), some 121, some (120, true)⟩, []⟩,
    ⟨⟨.un .not (.slot 121), some 122, some (120, true)⟩, []⟩,
    ⟨⟨.mv (.slot 122), some 123, some (120, true)⟩, []⟩,
    ⟨⟨.mv (.slot 16), some 124, some (123, false)⟩, []⟩,
    ⟨⟨.pick (.slot 123) (.const (.bool true)) (.slot 124), some 125, some (120, true)⟩, []⟩,
    ⟨⟨.pick (.slot 120) (.slot 125) (.const (.bool false)), some 126, none⟩, []⟩,
    ⟨⟨.mv (.slot 126), some 127, none⟩, []⟩,
    ⟨⟨.call (.const (.func 9 [] [])) [], some 128, some (127, true)⟩, []⟩,
    ⟨⟨.pick (.slot 127) (.slot 128) (.const (.bool false)), some 129, none⟩, []⟩,
    ⟨⟨.mv (.slot 129), some 4, none⟩, []⟩])
  .ret))))))))),
  [.tmp 4]⟩
theorem xf6_ok : compFunc Try.prog Try.f6 = some xf6 := by kernel_rfl
/-- threshing/threshinglaw06.CheckKnown -/
def xf7 : XFunc := ⟨(.seq (.region false [⟨⟨.mv (.const (.bool false)), some 0, none⟩, []⟩])
  (.seq (.region false [⟨⟨.bslice 1 [(.int .i32 (.ofNat 0))] [(0, 1, (.const (.int .i32 (.ofNat 1))))] 1, some 29, none⟩, []⟩,
    ⟨⟨.bslice 1 [(.int .i64 (.ofNat 0)), (.int .i64 (.ofNat 0)), (.int .i64 (.ofNat 0))] [(0, 1, (.const (.int .i64 (.ofNat 2)))), (1, 1, (.const (.int .i64 (.ofNat 1)))), (2, 1, (.const (.int .i64 (.ofNat 1))))] 3, some 30, none⟩, []⟩,
    ⟨⟨.call (.const (.func 12 [] [])) [(.const (.int .i64 (.ofNat 5))), (.slot 29), (.slot 30)], some 31, none⟩, []⟩,
    ⟨⟨.bslice 1 [(.int .i32 (.ofNat 0))] [(0, 1, (.const (.int .i32 (.ofNat 1))))] 1, some 32, none⟩, []⟩,
    ⟨⟨.bslice 1 [(.int .i64 (.ofNat 0))] [(0, 1, (.const (.int .i64 (.ofNat 1))))] 1, some 33, none⟩, []⟩,
    ⟨⟨.call (.const (.func 12 [] [])) [(.const (.int .i64 (.ofNat 5))), (.slot 32), (.slot 33)], some 34, none⟩, []⟩,
    ⟨⟨.bslice 1 [(.int .i32 (.ofNat 0))] [(0, 1, (.const (.int .i32 (.ofNat 1))))] 1, some 35, none⟩, []⟩,
    ⟨⟨.bslice 1 [(.int .i64 (.ofNat 0))] [(0, 1, (.const (.int .i64 (.ofNat 9))))] 1, some 36, none⟩, []⟩,
    ⟨⟨.call (.const (.func 12 [] [])) [(.const (.int .i64 (.ofNat 5))), (.slot 35), (.slot 36)], some 37, none⟩, []⟩,
    ⟨⟨.bslice 1 [(.int .i32 (.ofNat 0))] [(0, 1, (.const (.int .i32 (.ofNat 1))))] 1, some 38, none⟩, []⟩,
    ⟨⟨.bslice 1 [(.int .i64 (.ofNat 0)), (.int .i64 (.ofNat 0))] [(0, 1, (.const (.int .i64 (.ofNat 1)))), (1, 1, (.const (.int .i64 (.ofNat 2))))] 2, some 39, none⟩, []⟩,
    ⟨⟨.call (.const (.func 12 [] [])) [(.const (.int .i64 (.ofNat 4))), (.slot 38), (.slot 39)], some 40, none⟩, []⟩,
    ⟨⟨.call (.const (.func 12 [] [])) [(.const (.int .i64 (.ofNat 5))), (.const .nils), (.const .nils)], some 41, none⟩, []⟩,
    ⟨⟨.bslice 1 [(.int .i32 (.ofNat 0)), (.int .i32 (.ofNat 0))] [(0, 1, (.const (.int .i32 (.ofNat 3)))), (1, 1, (.const (.int .i32 (.ofNat 1))))] 2, some 42, none⟩, []⟩,
    ⟨⟨.call (.const (.func 12 [] [])) [(.const (.int .i64 (.ofNat 5))), (.slot 42), (.const .nils)], some 43, none⟩, []⟩,
    ⟨⟨.bslice 1 [(.int .i32 (.ofNat 0)), (.int .i32 (.ofNat 0))] [(0, 1, (.const (.int .i32 (.negSucc 2)))), (1, 1, (.const (.int .i32 (.ofNat 3))))] 2, some 44, none⟩, []⟩,
    ⟨⟨.bslice 1 [(.int .i64 (.ofNat 0))] [(0, 1, (.const (.int .i64 (.ofNat 77))))] 1, some 45, none⟩, []⟩,
    ⟨⟨.call (.const (.func 12 [] [])) [(.const (.int .i64 (.ofNat 5))), (.slot 44), (.slot 45)], some 46, none⟩, []⟩,
    ⟨⟨.bslice 1 [(.int .i32 (.ofNat 0))] [(0, 1, (.const (.int .i32 (.ofNat 1))))] 1, some 47, none⟩, []⟩,
    ⟨⟨.bslice 1 [(.int .i64 (.ofNat 0)), (.int .i64 (.ofNat 0))] [(0, 1, (.const (.int .i64 (.negSucc 2)))), (1, 1, (.const (.int .i64 (.negSucc 3))))] 2, some 48, none⟩, []⟩,
    ⟨⟨.call (.const (.func 12 [] [])) [(.const (.int .i64 (.ofNat 5))), (.slot 47), (.slot 48)], some 49, none⟩, []⟩,
    ⟨⟨.bslice 1 [(.int .i32 (.ofNat 0))] [(0, 1, (.const (.int .i32 (.ofNat 1))))] 1, some 50, none⟩, []⟩,
    ⟨⟨.bslice 1 [(.int .i64 (.ofNat 0)), (.int .i64 (.ofNat 0)), (.int .i64 (.ofNat 0)), (.int .i64 (.ofNat 0))] [(0, 1, (.const (.int .i64 (.negSucc 2)))), (1, 1, (.const (.int .i64 (.ofNat 1)))), (2, 1, (.const (.int .i64 (.negSucc 3)))), (3, 1, (.const (.int .i64 (.ofNat 2))))] 4, some 51, none⟩, []⟩,
    ⟨⟨.call (.const (.func 12 [] [])) [(.const (.int .i64 (.ofNat 5))), (.slot 50), (.slot 51)], some 52, none⟩, []⟩,
    ⟨⟨.bslice 1 [(.int .i64 (.ofNat 0)), (.int .i64 (.ofNat 0))] [(0, 1, (.const (.int .i64 (.ofNat 1)))), (1, 1, (.const (.int .i64 (.ofNat 1))))] 2, some 53, none⟩, []⟩,
    ⟨⟨.build [(.int .u8 (.ofNat 0)), (.int .i64 (.ofNat 0)), .nils, .nils] [(0, 1, (.const (.int .u8 (.ofNat 2)))), (3, 1, (.slot 53))], some 54, none⟩, []⟩,
    ⟨⟨.bslice 1 [(.int .i64 (.ofNat 0))] [(0, 1, (.const (.int .i64 (.ofNat 9))))] 1, some 55, none⟩, []⟩,
    ⟨⟨.build [(.int .u8 (.ofNat 0)), (.int .i64 (.ofNat 0)), .nils, .nils] [(0, 1, (.const (.int .u8 (.ofNat 2)))), (3, 1, (.slot 55))], some 56, none⟩, []⟩,
    ⟨⟨.bslice 1 [(.int .i64 (.ofNat 0)), (.int .i64 (.ofNat 0))] [(0, 1, (.const (.int .i64 (.ofNat 1)))), (1, 1, (.const (.int .i64 (.ofNat 2))))] 2, some 57, none⟩, []⟩,
    ⟨⟨.build [(.int .u8 (.ofNat 0)), (.int .i64 (.ofNat 0)), .nils, .nils] [(0, 1, (.const (.int .u8 (.ofNat 2)))), (3, 1, (.slot 57))], some 58, none⟩, []⟩,
    ⟨⟨.build [(.int .u8 (.ofNat 0)), (.int .i64 (.ofNat 0)), .nils, .nils] [], some 59, none⟩, []⟩,
    ⟨⟨.bslice 1 [(.int .i32 (.ofNat 0))] [(0, 1, (.const (.int .i32 (.ofNat 0))))] 1, some 60, none⟩, []⟩,
    ⟨⟨.call (.const (.func 12 [] [])) [(.const (.int .i64 (.ofNat 5))), (.slot 60), (.const .nils)], some 61, none⟩, []⟩,
    ⟨⟨.bslice 1 [(.int .i64 (.ofNat 0)), (.int .i64 (.ofNat 0))] [(0, 1, (.const (.int .i64 (.negSucc 2)))), (1, 1, (.const (.int .i64 (.ofNat 2))))] 2, some 62, none⟩, []⟩,
    ⟨⟨.call (.const (.func 12 [] [])) [(.const (.int .i64 (.ofNat 5))), (.const .nils), (.slot 62)], some 63, none⟩, []⟩,
    ⟨⟨.bslice 1 [(.int .i32 (.ofNat 0))] [(0, 1, (.const (.int .i32 (.ofNat 1))))] 1, some 64, none⟩, []⟩,
    ⟨⟨.bslice 1 [(.int .i64 (.ofNat 0)), (.int .i64 (.ofNat 0)), (.int .i64 (.ofNat 0)), (.int .i64 (.ofNat 0))] [(0, 1, (.const (.int .i64 (.negSucc 3)))), (1, 1, (.const (.int .i64 (.ofNat 2)))), (2, 1, (.const (.int .i64 (.negSucc 2)))), (3, 1, (.const (.int .i64 (.ofNat 1))))] 4, some 65, none⟩, []⟩,
    ⟨⟨.call (.const (.func 12 [] [])) [(.const (.int .i64 (.ofNat 5))), (.slot 64), (.slot 65)], some 66, none⟩, []⟩,
    ⟨⟨.bslice 1 [(.int .i32 (.ofNat 0))] [(0, 1, (.const (.int .i32 (.ofNat 1))))] 1, some 67, none⟩, []⟩,
    ⟨⟨.bslice 1 [(.int .i64 (.ofNat 0)), (.int .i64 (.ofNat 0))] [(0, 1, (.const (.int .i64 (.negSucc 0)))), (1, 1, (.const (.int .i64 (.ofNat 2))))] 2, some 68, none⟩, []⟩,
    ⟨⟨.call (.const (.func 12 [] [])) [(.const (.int .i64 (.ofNat 5))), (.slot 67), (.slot 68)], some 69, none⟩, []⟩,
    ⟨⟨.bslice 1 [(.int .i32 (.ofNat 0))] [(0, 1, (.const (.int .i32 (.ofNat 1))))] 1, some 70, none⟩, []⟩,
    ⟨⟨.bslice 1 [(.int .i64 (.ofNat 0)), (.int .i64 (.ofNat 0))] [(0, 1, (.const (.int .i64 (.negSucc 2)))), (1, 1, (.const (.int .i64 (.ofNat 1))))] 2, some 71, none⟩, []⟩,
    ⟨⟨.call (.const (.func 12 [] [])) [(.const (.int .i64 (.ofNat 5))), (.slot 70), (.slot 71)], some 72, none⟩, []⟩,
    ⟨⟨.bslice 1 [(.int .i32 (.ofNat 0))] [(0, 1, (.const (.int .i32 (.ofNat 1))))] 1, some 73, none⟩, []⟩,
    ⟨⟨.bslice 1 [(.int .i64 (.ofNat 0)), (.int .i64 (.ofNat 0))] [(0, 1, (.const (.int .i64 (.negSucc 2)))), (1, 1, (.const (.int .i64 (.ofNat 9))))] 2, some 74, none⟩, []⟩,
    ⟨⟨.call (.const (.func 12 [] [])) [(.const (.int .i64 (.ofNat 5))), (.slot 73), (.slot 74)], some 75, none⟩, []⟩,
    ⟨⟨.bslice 1 [(.int .i32 (.ofNat 0)), (.int .i32 (.ofNat 0))] [(0, 1, (.const (.int .i32 (.ofNat 1)))), (1, 1, (.const (.int .i32 (.ofNat 2))))] 2, some 76, none⟩, []⟩,
    ⟨⟨.bslice 1 [(.int .i64 (.ofNat 0)), (.int .i64 (.ofNat 0)), (.int .i64 (.ofNat 0))] [(0, 1, (.const (.int .i64 (.negSucc 2)))), (1, 1, (.const (.int .i64 (.negSucc 3)))), (2, 1, (.const (.int .i64 (.ofNat 1))))] 3, some 77, none⟩, []⟩,
    ⟨⟨.call (.const (.func 12 [] [])) [(.const (.int .i64 (.ofNat 5))), (.slot 76), (.slot 77)], some 78, none⟩, []⟩,
    ⟨⟨.bslice 1 [(.int .i32 (.ofNat 0)), (.int .i32 (.ofNat 0))] [(0, 1, (.const (.int .i32 (.negSucc 0)))), (1, 1, (.const (.int .i32 (.ofNat 2))))] 2, some 79, none⟩, []⟩,
    ⟨⟨.bslice 1 [(.int .i64 (.ofNat 0))] [(0, 1, (.const (.int .i64 (.ofNat 3))))] 1, some 80, none⟩, []⟩,
    ⟨⟨.call (.const (.func 12 [] [])) [(.const (.int .i64 (.ofNat 5))), (.slot 79), (.slot 80)], some 81, none⟩, []⟩,
    ⟨⟨.bslice 4 [(.int .u8 (.ofNat 0)), (.int .i64 (.ofNat 0)), .nils, .nils, (.int .u8 (.ofNat 0)), (.int .i64 (.ofNat 0)), .nils, .nils, (.int .u8 (.ofNat 0)), (.int .i64 (.ofNat 0)), .nils, .nils, (.int .u8 (.ofNat 0)), (.int .i64 (.ofNat 0)), .nils, .nils, (.int .u8 (.ofNat 0)), (.int .i64 (.ofNat 0)), .nils, .nils, (.int .u8 (.ofNat 0)), (.int .i64 (.ofNat 0)), .nils, .nils, (.int .u8 (.ofNat 0)), (.int .i64 (.ofNat 0)), .nils, .nils, (.int .u8 (.ofNat 0)), (.int .i64 (.ofNat 0)), .nils, .nils, (.int .u8 (.ofNat 0)), (.int .i64 (.ofNat 0)), .nils, .nils, (.int .u8 (.ofNat 0)), (.int .i64 (.ofNat 0)), .nils, .nils, (.int .u8 (.ofNat 0)), (.int .i64 (.ofNat 0)), .nils, .nils, (.int .u8 (.ofNat 0)), (.int .i64 (.ofNat 0)), .nils, .nils, (.int .u8 (.ofNat 0)), (.int .i64 (.ofNat 0)), .nils, .nils, (.int .u8 (.ofNat 0)), (.int .i64 (.ofNat 0)), .nils, .nils, (.int .u8 (.ofNat 0)), (.int .i64 (.ofNat 0)), .nils, .nils, (.int .u8 (.ofNat 0)), (.int .i64 (.ofNat 0)), .nils, .nils, (.int .u8 (.ofNat 0)), (.int .i64 (.ofNat 0)), .nils, .nils, (.int .u8 (.ofNat 0)), (.int .i64 (.ofNat 0)), .nils, .nils, (.int .u8 (.ofNat 0)), (.int .i64 (.ofNat 0)), .nils, .nils, (.int .u8 (.ofNat 0)), (.int .i64 (.ofNat 0)), .nils, .nils, (.int .u8 (.ofNat 0)), (.int .i64 (.ofNat 0)), .nils, .nils] [(0, 4, (.slot 31)), (4, 4, (.slot 34)), (8, 4, (.slot 37)), (12, 4, (.slot 40)), (16, 4, (.slot 41)), (20, 4, (.slot 43)), (24, 4, (.slot 46)), (28, 4, (.slot 49)), (32, 4, (.slot 52)), (36, 4, (.slot 54)), (40, 4, (.slot 56)), (44, 4, (.slot 58)), (48, 4, (.slot 59)), (52, 4, (.slot 61)), (56, 4, (.slot 63)), (60, 4, (.slot 66)), (64, 4, (.slot 69)), (68, 4, (.slot 72)), (72, 4, (.slot 75)), (76, 4, (.slot 78)), (80, 4, (.slot 81))] 21, some 82, none⟩, []⟩,
    ⟨⟨.mv (.slot 82), some 1, none⟩, []⟩])
  (.seq (.region false [⟨⟨.bslice 1 [(.int .i64 (.ofNat 0)), (.int .i64 (.ofNat 0)), (.int .i64 (.ofNat 0)), (.int .i64 (.ofNat 0)), (.int .i64 (.ofNat 0)), (.int .i64 (.ofNat 0)), (.int .i64 (.ofNat 0)), (.int .i64 (.ofNat 0)), (.int .i64 (.ofNat 0)), (.int .i64 (.ofNat 0)), (.int .i64 (.ofNat 0)), (.int .i64 (.ofNat 0)), (.int .i64 (.ofNat 0)), (.int .i64 (.ofNat 0)), (.int .i64 (.ofNat 0)), (.int .i64 (.ofNat 0)), (.int .i64 (.ofNat 0)), (.int .i64 (.ofNat 0)), (.int .i64 (.ofNat 0)), (.int .i64 (.ofNat 0)), (.int .i64 (.ofNat 0))] [(0, 1, (.const (.int .i64 (.ofNat 0)))), (1, 1, (.const (.int .i64 (.ofNat 61)))), (2, 1, (.const (.int .i64 (.ofNat 60)))), (3, 1, (.const (.int .i64 (.ofNat 62)))), (4, 1, (.const (.int .i64 (.ofNat 61)))), (5, 1, (.const (.int .i64 (.ofNat 0)))), (6, 1, (.const (.int .i64 (.ofNat 0)))), (7, 1, (.const (.int .i64 (.ofNat 61)))), (8, 1, (.const (.int .i64 (.ofNat 0)))), (9, 1, (.const (.int .i64 (.ofNat 5)))), (10, 1, (.const (.int .i64 (.ofNat 5)))), (11, 1, (.const (.int .i64 (.ofNat 0)))), (12, 1, (.const (.int .i64 (.ofNat 40)))), (13, 1, (.const (.int .i64 (.ofNat 40)))), (14, 1, (.const (.int .i64 (.ofNat 61)))), (15, 1, (.const (.int .i64 (.ofNat 60)))), (16, 1, (.const (.int .i64 (.ofNat 60)))), (17, 1, (.const (.int .i64 (.ofNat 61)))), (18, 1, (.const (.int .i64 (.ofNat 60)))), (19, 1, (.const (.int .i64 (.ofNat 61)))), (20, 1, (.const (.int .i64 (.ofNat 0))))] 21, some 83, none⟩, []⟩,
    ⟨⟨.mv (.slot 83), some 2, none⟩, []⟩])
  (.seq (.seq (.region false [⟨⟨.mv (.const (.int .i64 (.ofNat 0))), some 3, none⟩, []⟩])
  (.block 0 (.loop (.seq (.seq (.region false [⟨⟨.mv (.slot 3), some 84, none⟩, []⟩,
     ⟨⟨.mv (.slot 1), some 85, none⟩, []⟩,
     ⟨⟨.len .slice (.slot 85), some 86, none⟩, []⟩,
     ⟨⟨.bin .lss 3 .num (.slot 84) (.slot 86), some 87, none⟩, []⟩])
   (.cond (.slot 87)
    .skip
    (.exit 0)))
   (.seq (.block 1 (.seq (.region false [⟨⟨.call (.const (.func 27 [] [])) [], some 91, none⟩, []⟩,
     ⟨⟨.call (.const (.func 14 [] [])) [(.slot 91)], some 92, none⟩, []⟩,
     ⟨⟨.mv (.slot 92), some 90, none⟩, []⟩,
     ⟨⟨.extract (.slot 90) 0, some 93, none⟩, []⟩,
     ⟨⟨.extract (.slot 90) 1, some 94, none⟩, []⟩,
     ⟨⟨.mv (.slot 93), some 4, none⟩, []⟩,
     ⟨⟨.mv (.slot 94), some 5, none⟩, []⟩])
   (.seq (.region true [⟨⟨.mv (.slot 5), some 95, none⟩, []⟩,
     ⟨⟨.bin .neq 28 .num (.slot 95) (.const (.int .i64 (.ofNat 0))), some 96, none⟩, []⟩,
     ⟨⟨.mv (.slot 96), some 97, none⟩, []⟩,
     ⟨⟨.mv (.slot 4), some 98, some (97, false)⟩, []⟩,
     ⟨⟨.mv (.slot 1), some 99, some (97, false)⟩, []⟩,
     ⟨⟨.mv (.slot 3), some 100, some (97, false)⟩, []⟩,
     ⟨⟨.iaddr 4 (.slot 99) (.slot 100), some 101, some (97, false)⟩, []⟩,
     ⟨⟨.load true 4 (.slot 101), some 102, some (97, false)⟩, []⟩,
     ⟨⟨.mv (.slot 2), some 104, some (97, false)⟩, []⟩,
     ⟨⟨.mv (.slot 3), some 105, some (97, false)⟩, []⟩,
     ⟨⟨.iaddr 1 (.slot 104) (.slot 105), some 106, some (97, false)⟩, []⟩,
     ⟨⟨.load false 1 (.slot 106), some 107, some (97, false)⟩, []⟩,
     ⟨⟨.call (.const (.func 15 [] [])) [(.slot 98), (.slot 102)], some 103, some (97, false)⟩, [⟨.load false 1 (.slot 106), some 107, some (97, false)⟩]⟩,
     ⟨⟨.bin .neq 28 .num (.slot 103) (.slot 107), some 108, some (97, false)⟩, []⟩,
     ⟨⟨.pick (.slot 97) (.const (.bool true)) (.slot 108), some 109, none⟩, []⟩])
   (.cond (.slot 109)
    (.seq (.region false [⟨⟨.mv (.const (.bool false)), some 0, none⟩, []⟩])
    .ret)
    .skip))))
   (.region false [⟨⟨.mv (.slot 3), some 88, none⟩, []⟩,
     ⟨⟨.bin .add 3 .num (.slot 88) (.const (.int .i64 (.ofNat 1))), some 89, none⟩, []⟩,
     ⟨⟨.mv (.slot 89), some 3, none⟩, []⟩]))))))
  (.seq (.region false [⟨⟨.build [(.int .i64 (.ofNat 0)), .nils] [(0, 1, (.const (.int .i64 (.negSucc 0))))], some 111, none⟩, []⟩,
    ⟨⟨.call (.const (.func 14 [] [])) [(.slot 111)], some 112, none⟩, []⟩,
    ⟨⟨.mv (.slot 112), some 110, none⟩, []⟩,
    ⟨⟨.extract (.slot 110) 0, some 113, none⟩, []⟩,
    ⟨⟨.extract (.slot 110) 1, some 114, none⟩, []⟩,
    ⟨⟨.mv (.slot 113), some 6, none⟩, []⟩,
    ⟨⟨.mv (.slot 114), some 7, none⟩, []⟩])
  (.seq (.region false [⟨⟨.bslice 1 [(.int .i32 (.ofNat 0))] [(0, 1, (.const (.int .i32 (.ofNat 2))))] 1, some 116, none⟩, []⟩,
    ⟨⟨.bslice 1 [.nils] [(0, 1, (.slot 116))] 1, some 117, none⟩, []⟩,
    ⟨⟨.build [(.int .i64 (.ofNat 0)), .nils] [(0, 1, (.const (.int .i64 (.ofNat 1)))), (1, 1, (.slot 117))], some 118, none⟩, []⟩,
    ⟨⟨.call (.const (.func 14 [] [])) [(.slot 118)], some 119, none⟩, []⟩,
    ⟨⟨.mv (.slot 119), some 115, none⟩, []⟩,
    ⟨⟨.extract (.slot 115) 0, some 120, none⟩, []⟩,
    ⟨⟨.extract (.slot 115) 1, some 121, none⟩, []⟩,
    ⟨⟨.mv (.slot 120), some 8, none⟩, []⟩,
    ⟨⟨.mv (.slot 121), some 9, none⟩, []⟩])
  (.seq (.region false [⟨⟨.bslice 1 [] [] 0, some 123, none⟩, []⟩,
    ⟨⟨.bslice 1 [.nils] [(0, 1, (.slot 123))] 1, some 124, none⟩, []⟩,
    ⟨⟨.build [(.int .i64 (.ofNat 0)), .nils] [(1, 1, (.slot 124))], some 125, none⟩, []⟩,
    ⟨⟨.call (.const (.func 10 [] [])) [(.slot 125), (.const .nils)], some 126, none⟩, []⟩,
    ⟨⟨.mv (.slot 126), some 122, none⟩, []⟩,
    ⟨⟨.extract (.slot 122) 0, some 127, none⟩, []⟩,
    ⟨⟨.extract (.slot 122) 1, some 128, none⟩, []⟩,
    ⟨⟨.extract (.slot 122) 2, some 129, none⟩, []⟩,
    ⟨⟨.mv (.slot 127), some 10, none⟩, []⟩,
    ⟨⟨.mv (.slot 128), some 11, none⟩, []⟩,
    ⟨⟨.mv (.slot 129), some 12, none⟩, []⟩])
  (.seq (.region false [⟨⟨.call (.const (.func 27 [] [])) [], some 131, none⟩, []⟩,
    ⟨⟨.bslice 1 [(.int .i32 (.ofNat 0))] [(0, 1, (.const (.int .i32 (.ofNat 1))))] 1, some 132, none⟩, []⟩,
    ⟨⟨.bslice 1 [(.int .i64 (.ofNat 0)), (.int .i64 (.ofNat 0))] [(0, 1, (.const (.int .i64 (.ofNat 1)))), (1, 1, (.const (.int .i64 (.ofNat 2))))] 2, some 133, none⟩, []⟩,
    ⟨⟨.call (.const (.func 12 [] [])) [(.const (.int .i64 (.ofNat 5))), (.slot 132), (.slot 133)], some 134, none⟩, []⟩,
    ⟨⟨.bslice 1 [(.int .i64 (.ofNat 0)), (.int .i64 (.ofNat 0)), (.int .i64 (.ofNat 0))] [(0, 1, (.const (.int .i64 (.ofNat 5)))), (1, 1, (.const (.int .i64 (.ofNat 3)))), (2, 1, (.const (.int .i64 (.ofNat 3))))] 3, some 135, none⟩, []⟩,
    ⟨⟨.call (.const (.func 12 [] [])) [(.const (.int .i64 (.ofNat 6))), (.const .nils), (.slot 135)], some 136, none⟩, []⟩,
    ⟨⟨.bslice 4 [(.int .u8 (.ofNat 0)), (.int .i64 (.ofNat 0)), .nils, .nils, (.int .u8 (.ofNat 0)), (.int .i64 (.ofNat 0)), .nils, .nils] [(0, 4, (.slot 134)), (4, 4, (.slot 136))] 2, some 137, none⟩, []⟩,
    ⟨⟨.call (.const (.func 10 [] [])) [(.slot 131), (.slot 137)], some 138, none⟩, []⟩,
    ⟨⟨.mv (.slot 138), some 130, none⟩, []⟩,
    ⟨⟨.extract (.slot 130) 0, some 139, none⟩, []⟩,
    ⟨⟨.extract (.slot 130) 1, some 140, none⟩, []⟩,
    ⟨⟨.extract (.slot 130) 2, some 141, none⟩, []⟩,
    ⟨⟨.mv (.slot 139), some 13, none⟩, []⟩,
    ⟨⟨.mv (.slot 140), some 14, none⟩, []⟩,
    ⟨⟨.mv (.slot 141), some 15, none⟩, []⟩])
  (.seq (.region false [⟨⟨.call (.const (.func 27 [] [])) [], some 143, none⟩, []⟩,
    ⟨⟨.call (.const (.func 10 [] [])) [(.slot 143), (.const .nils)], some 144, none⟩, []⟩,
    ⟨⟨.mv (.slot 144), some 142, none⟩, []⟩,
    ⟨⟨.extract (.slot 142) 0, some 145, none⟩, []⟩,
    ⟨⟨.extract (.slot 142) 1, some 146, none⟩, []⟩,
    ⟨⟨.extract (.slot 142) 2, some 147, none⟩, []⟩,
    ⟨⟨.mv (.slot 145), some 16, none⟩, []⟩,
    ⟨⟨.mv (.slot 146), some 17, none⟩, []⟩,
    ⟨⟨.mv (.slot 147), some 18, none⟩, []⟩])
  (.seq (.region false [⟨⟨.call (.const (.func 27 [] [])) [], some 149, none⟩, []⟩,
    ⟨⟨.call (.const (.func 14 [] [])) [(.slot 149)], some 150, none⟩, []⟩,
    ⟨⟨.mv (.slot 150), some 148, none⟩, []⟩,
    ⟨⟨.extract (.slot 148) 0, some 151, none⟩, []⟩,
    ⟨⟨.extract (.slot 148) 1, some 152, none⟩, []⟩,
    ⟨⟨.mv (.slot 151), some 19, none⟩, []⟩,
    ⟨⟨.mv (.slot 152), some 20, none⟩, []⟩])
  (.seq (.region false [⟨⟨.mv (.slot 19), some 154, none⟩, []⟩,
    ⟨⟨.call (.const (.func 28 [] [])) [(.slot 154), (.const (.int .i64 (.ofNat 3)))], some 155, none⟩, []⟩,
    ⟨⟨.mv (.slot 155), some 153, none⟩, []⟩,
    ⟨⟨.extract (.slot 153) 0, some 156, none⟩, []⟩,
    ⟨⟨.extract (.slot 153) 1, some 157, none⟩, []⟩,
    ⟨⟨.mv (.slot 156), some 21, none⟩, []⟩,
    ⟨⟨.mv (.slot 157), some 22, none⟩, []⟩])
  (.seq (.region false [⟨⟨.mv (.slot 19), some 159, none⟩, []⟩,
    ⟨⟨.call (.const (.func 28 [] [])) [(.slot 159), (.const (.int .i64 (.ofNat 9)))], some 160, none⟩, []⟩,
    ⟨⟨.mv (.slot 160), some 158, none⟩, []⟩,
    ⟨⟨.extract (.slot 158) 0, some 161, none⟩, []⟩,
    ⟨⟨.extract (.slot 158) 1, some 162, none⟩, []⟩,
    ⟨⟨.mv (.slot 161), some 23, none⟩, []⟩,
    ⟨⟨.mv (.slot 162), some 24, none⟩, []⟩])
  (.seq (.region false [⟨⟨.mv (.slot 19), some 163, none⟩, []⟩,
    ⟨⟨.bslice 1 [(.int .i64 (.ofNat 0))] [(0, 1, (.const (.int .i64 (.ofNat 4))))] 1, some 164, none⟩, []⟩,
    ⟨⟨.build [(.int .u8 (.ofNat 0)), (.int .i64 (.ofNat 0)), .nils, .nils] [(0, 1, (.const (.int .u8 (.ofNat 2)))), (3, 1, (.slot 164))], some 165, none⟩, []⟩,
    ⟨⟨.call (.const (.func 15 [] [])) [(.slot 163), (.slot 165)], some 166, none⟩, []⟩,
    ⟨⟨.bin .eql 28 .num (.slot 166) (.const (.int .i64 (.ofNat 0))), some 167, none⟩, []⟩,
    ⟨⟨.mv (.slot 167), some 168, none⟩, []⟩,
    ⟨⟨.mv (.slot 19), some 169, some (168, true)⟩, []⟩,
    ⟨⟨.bslice 1 [(.int .i32 (.ofNat 0))] [(0, 1, (.const (.int .i32 (.ofNat 1))))] 1, some 170, some (168, true)⟩, []⟩,
    ⟨⟨.bslice 1 [(.int .i64 (.ofNat 0)), (.int .i64 (.ofNat 0))] [(0, 1, (.const (.int .i64 (.ofNat 1)))), (1, 1, (.const (.int .i64 (.ofNat 2))))] 2, some 171, some (168, true)⟩, []⟩,
    ⟨⟨.call (.const (.func 12 [] [])) [(.const (.int .i64 (.ofNat 4))), (.slot 170), (.slot 171)], some 172, some (168, true)⟩, []⟩,
    ⟨⟨.call (.const (.func 15 [] [])) [(.slot 169), (.slot 172)], some 173, some (168, true)⟩, []⟩,
    ⟨⟨.bin .eql 28 .num (.slot 173) (.const (.int .i64 (.ofNat 62))), some 174, some (168, true)⟩, []⟩,
    ⟨⟨.pick (.slot 168) (.slot 174) (.const (.bool false)), some 175, none⟩, []⟩,
    ⟨⟨.mv (.slot 175), some 176, none⟩, []⟩,
    ⟨⟨.mv (.slot 19), some 177, some (176, true)⟩, []⟩,
    ⟨⟨.bslice 1 [(.int .i32 (.ofNat 0))] [(0, 1, (.const (.int .i32 (.ofNat 1))))] 1, some 178, some (176, true)⟩, []⟩,
    ⟨⟨.bslice 1 [(.int .i64 (.ofNat 0)), (.int .i64 (.ofNat 0))] [(0, 1, (.const (.int .i64 (.ofNat 1)))), (1, 1, (.const (.int .i64 (.ofNat 2))))] 2, some 179, some (176, true)⟩, []⟩,
    ⟨⟨.call (.const (.func 12 [] [])) [(.const (.int .i64 (.ofNat 7))), (.slot 178), (.slot 179)], some 180, some (176, true)⟩, []⟩,
    ⟨⟨.call (.const (.func 15 [] [])) [(.slot 177), (.slot 180)], some 181, some (176, true)⟩, []⟩,
    ⟨⟨.bin .eql 28 .num (.slot 181) (.const (.int .i64 (.ofNat 0))), some 182, some (176, true)⟩, []⟩,
    ⟨⟨.pick (.slot 176) (.slot 182) (.const (.bool false)), some 183, none⟩, []⟩,
    ⟨⟨.mv (.slot 183), some 184, none⟩, []⟩,
    ⟨⟨.mv (.slot 19), some 185, some (184, true)⟩, []⟩,
    ⟨⟨.call (.const (.func 22 [] [])) [(.slot 185)], some 186, some (184, true)⟩, []⟩,
    ⟨⟨.len .slice (.slot 186), some 187, some (184, true)⟩, []⟩,
    ⟨⟨.bin .eql 3 .num (.slot 187) (.const (.int .i64 (.ofNat 4))), some 188, some (184, true)⟩, []⟩,
    ⟨⟨.pick (.slot 184) (.slot 188) (.const (.bool false)), some 189, none⟩, []⟩,
    ⟨⟨.mv (.slot 189), some 190, none⟩, []⟩,
    ⟨⟨.mv (.slot 19), some 191, some (190, true)⟩, []⟩,
    ⟨⟨.call (.const (.func 22 [] [])) [(.slot 191)], some 192, some (190, true)⟩, []⟩,
    ⟨⟨.iaddr 1 (.slot 192) (.const (.int .i64 (.ofNat 3))), some 193, some (190, true)⟩, []⟩,
    ⟨⟨.load false 1 (.slot 193), some 194, some (190, true)⟩, []⟩,
    ⟨⟨.bin .eql 2 .num (.slot 194) (.const (.int .i64 (.ofNat 7))), some 195, some (190, true)⟩, []⟩,
    ⟨⟨.pick (.slot 190) (.slot 195) (.const (.bool false)), some 196, none⟩, []⟩,
    ⟨⟨.mv (.slot 196), some 25, none⟩, []⟩])
  (.seq (.region false [⟨⟨.mv (.const .nilp), some 26, none⟩, []⟩])
  (.seq (.region false [⟨⟨.mv (.slot 26), some 198, none⟩, []⟩,
    ⟨⟨.call (.const (.func 28 [] [])) [(.slot 198), (.const (.int .i64 (.ofNat 1)))], some 199, none⟩, []⟩,
    ⟨⟨.mv (.slot 199), some 197, none⟩, []⟩,
    ⟨⟨.extract (.slot 197) 0, some 200, none⟩, []⟩,
    ⟨⟨.extract (.slot 197) 1, some 201, none⟩, []⟩,
    ⟨⟨.mv (.slot 200), some 27, none⟩, []⟩,
    ⟨⟨.mv (.slot 201), some 28, none⟩, []⟩])
  (.seq (.region false [⟨⟨.mv (.slot 7), some 202, none⟩, []⟩,
    ⟨⟨.bin .eql 28 .num (.slot 202) (.const (.int .i64 (.ofNat 2))), some 203, none⟩, []⟩,
    ⟨⟨.mv (.slot 203), some 204, none⟩, []⟩,
    ⟨⟨.mv (.slot 9), some 205, some (204, true)⟩, []⟩,
    ⟨⟨.bin .eql 28 .num (.slot 205) (.const (.int .i64 (.ofNat 4))), some 206, some (204, true)⟩, []⟩,
    ⟨⟨.pick (.slot 204) (.slot 206) (.const (.bool false)), some 207, none⟩, []⟩,
    ⟨⟨.mv (.slot 207), some 208, none⟩, []⟩,
    ⟨⟨.mv (.slot 10), some 209, some (208, true)⟩, []⟩,
    ⟨⟨.pick (.slot 208) (.slot 209) (.const (.bool false)), some 210, none⟩, []⟩,
    ⟨⟨.mv (.slot 210), some 211, none⟩, []⟩,
    ⟨⟨.mv (.slot 11), some 212, some (211, true)⟩, []⟩,
    ⟨⟨.bin .eql 3 .num (.slot 212) (.const (.int .i64 (.ofNat 0))), some 213, some (211, true)⟩, []⟩,
    ⟨⟨.pick (.slot 211) (.slot 213) (.const (.bool false)), some 214, none⟩, []⟩,
    ⟨⟨.mv (.slot 214), some 215, none⟩, []⟩,
    ⟨⟨.mv (.slot 12), some 216, some (215, true)⟩, []⟩,
    ⟨⟨.bin .eql 28 .num (.slot 216) (.const (.int .i64 (.ofNat 0))), some 217, some (215, true)⟩, []⟩,
    ⟨⟨.pick (.slot 215) (.slot 217) (.const (.bool false)), some 218, none⟩, []⟩,
    ⟨⟨.mv (.slot 218), some 219, none⟩, []⟩,
    ⟨⟨.mv (.slot 13), some 220, some (219, true)⟩, []⟩,
    ⟨⟨.un .not (.slot 220), some 221, some (219, true)⟩, []⟩,
    ⟨⟨.pick (.slot 219) (.slot 221) (.const (.bool false)), some 222, none⟩, []⟩,
    ⟨⟨.mv (.slot 222), some 223, none⟩, []⟩,
    ⟨⟨.mv (.slot 14), some 224, some (223, true)⟩, []⟩,
    ⟨⟨.bin .eql 3 .num (.slot 224) (.const (.int .i64 (.ofNat 1))), some 225, some (223, true)⟩, []⟩,
    ⟨⟨.pick (.slot 223) (.slot 225) (.const (.bool false)), some 226, none⟩, []⟩,
    ⟨⟨.mv (.slot 226), some 227, none⟩, []⟩,
    ⟨⟨.mv (.slot 15), some 228, some (227, true)⟩, []⟩,
    ⟨⟨.bin .eql 28 .num (.slot 228) (.const (.int .i64 (.ofNat 60))), some 229, some (227, true)⟩, []⟩,
    ⟨⟨.pick (.slot 227) (.slot 229) (.const (.bool false)), some 230, none⟩, []⟩,
    ⟨⟨.mv (.slot 230), some 231, none⟩, []⟩,
    ⟨⟨.mv (.slot 16), some 232, some (231, true)⟩, []⟩,
    ⟨⟨.un .not (.slot 232), some 233, some (231, true)⟩, []⟩,
    ⟨⟨.pick (.slot 231) (.slot 233) (.const (.bool false)), some 234, none⟩, []⟩,
    ⟨⟨.mv (.slot 234), some 235, none⟩, []⟩,
    ⟨⟨.mv (.slot 17), some 236, some (235, true)⟩, []⟩,
    ⟨⟨.bin .eql 3 .num (.slot 236) (.const (.int .i64 (.ofNat 0))), some 237, some (235, true)⟩, []⟩,
    ⟨⟨.pick (.slot 235) (.slot 237) (.const (.bool false)), some 238, none⟩, []⟩,
    ⟨⟨.mv (.slot 238), some 239, none⟩, []⟩,
    ⟨⟨.mv (.slot 18), some 240, some (239, true)⟩, []⟩,
    ⟨⟨.bin .eql 28 .num (.slot 240) (.const (.int .i64 (.ofNat 0))), some 241, some (239, true)⟩, []⟩,
    ⟨⟨.pick (.slot 239) (.slot 241) (.const (.bool false)), some 242, none⟩, []⟩,
    ⟨⟨.mv (.slot 242), some 243, none⟩, []⟩,
    ⟨⟨.mv (.slot 22), some 244, some (243, true)⟩, []⟩,
    ⟨⟨.pick (.slot 243) (.slot 244) (.const (.bool false)), some 245, none⟩, []⟩,
    ⟨⟨.mv (.slot 245), some 246, none⟩, []⟩,
    ⟨⟨.mv (.slot 21), some 247, some (246, true)⟩, []⟩,
    ⟨⟨.bslice 1 [(.int .i32 (.ofNat 0)), (.int .i32 (.ofNat 0))] [(0, 1, (.const (.int .i32 (.negSucc 0)))), (1, 1, (.const (.int .i32 (.ofNat 2))))] 2, some 248, some (246, true)⟩, []⟩,
    ⟨⟨.call (.const (.func 29 [] [])) [(.slot 247), (.slot 248)], some 249, some (246, true)⟩, []⟩,
    ⟨⟨.pick (.slot 246) (.slot 249) (.const (.bool false)), some 250, none⟩, []⟩,
    ⟨⟨.mv (.slot 250), some 251, none⟩, []⟩,
    ⟨⟨.mv (.slot 24), some 252, some (251, true)⟩, []⟩,
    ⟨⟨.un .not (.slot 252), some 253, some (251, true)⟩, []⟩,
    ⟨⟨.pick (.slot 251) (.slot 253) (.const (.bool false)), some 254, none⟩, []⟩,
    ⟨⟨.mv (.slot 254), some 255, none⟩, []⟩,
    ⟨⟨.mv (.slot 25), some 256, some (255, true)⟩, []⟩,
    ⟨⟨.pick (.slot 255) (.slot 256) (.const (.bool false)), some 257, none⟩, []⟩,
    ⟨⟨.mv (.slot 257), some 258, none⟩, []⟩,
    ⟨⟨.mv (.slot 26), some 259, some (258, true)⟩, []⟩,
    ⟨⟨.mv (.slot 1), some 260, some (258, true)⟩, []⟩,
    ⟨⟨.iaddr 4 (.slot 260) (.const (.int .i64 (.ofNat 0))), some 261, some (258, true)⟩, []⟩,
    ⟨⟨.load true 4 (.slot 261), some 262, some (258, true)⟩, []⟩,
    ⟨⟨.call (.const (.func 15 [] [])) [(.slot 259), (.slot 262)], some 263, some (258, true)⟩, []⟩,
    ⟨⟨.bin .eql 28 .num (.slot 263) (.const (.int .i64 (.ofNat 1))), some 264, some (258, true)⟩, []⟩,
    ⟨⟨.pick (.slot 258) (.slot 264) (.const (.bool false)), some 265, none⟩, []⟩,
    ⟨⟨.mv (.slot 265), some 266, none⟩, []⟩,
    ⟨⟨.mv (.slot 26), some 267, some (266, true)⟩, []⟩,
    ⟨⟨.call (.const (.func 23 [] [])) [(.slot 267)], some 268, some (266, true)⟩, []⟩,
    ⟨⟨.un .not (.slot 268), some 269, some (266, true)⟩, []⟩,
    ⟨⟨.pick (.slot 266) (.slot 269) (.const (.bool false)), some 270, none⟩, []⟩,
    ⟨⟨.mv (.slot 270), some 271, none⟩, []⟩,
    ⟨⟨.mv (.slot 26), some 272, some (271, true)⟩, []⟩,
    ⟨⟨.call (.const (.func 22 [] [])) [(.slot 272)], some 273, some (271, true)⟩, []⟩,
    ⟨⟨.len .slice (.slot 273), some 274, some (271, true)⟩, []⟩,
    ⟨⟨.bin .eql 3 .num (.slot 274) (.const (.int .i64 (.ofNat 0))), some 275, some (271, true)⟩, []⟩,
    ⟨⟨.pick (.slot 271) (.slot 275) (.const (.bool false)), some 276, none⟩, []⟩,
    ⟨⟨.mv (.slot 276), some 277, none⟩, []⟩,
    ⟨⟨.mv (.slot 28), some 278, some (277, true)⟩, []⟩,
    ⟨⟨.un .not (.slot 278), some 279, some (277, true)⟩, []⟩,
    ⟨⟨.pick (.slot 277) (.slot 279) (.const (.bool false)), some 280, none⟩, []⟩,
    ⟨⟨.mv (.slot 280), some 281, none⟩, []⟩,
    ⟨⟨.call (.const (.func 9 [] [])) [], some 282, some (281, true)⟩, []⟩,
    ⟨⟨.pick (.slot 281) (.slot 282) (.const (.bool false)), some 283, none⟩, []⟩,
    ⟨⟨.mv (.slot 283), some 0, none⟩, []⟩])
  .ret)))))))))))))))),
  [.tmp 0]⟩
theorem xf7_ok : compFunc Try.prog Try.f7 = some xf7 := by kernel_rfl
/-- threshing/threshinglaw06.large -/
def xf8 : XFunc := ⟨(.seq (.region false [⟨⟨.box (.slot 0), some 2, none⟩, []⟩,
    ⟨⟨.mv (.const (.bool false)), some 4, none⟩, []⟩])
  (.seq (.region false [⟨⟨.mv (.const (.int .i64 (.ofNat 0))), some 5, none⟩, []⟩])
  (.seq (.seq (.region false [⟨⟨.mv (.const (.int .i64 (.ofNat 0))), some 6, none⟩, []⟩])
  (.block 0 (.loop (.seq (.seq (.region false [⟨⟨.mv (.slot 6), some 7, none⟩, []⟩,
     ⟨⟨.faddr 1 (.slot 2), some 8, none⟩, []⟩,
     ⟨⟨.load false 1 (.slot 8), some 9, none⟩, []⟩,
     ⟨⟨.len .slice (.slot 9), some 10, none⟩, []⟩,
     ⟨⟨.bin .lss 3 .num (.slot 7) (.slot 10), some 11, none⟩, []⟩,
     ⟨⟨.mv (.slot 11), some 12, none⟩, []⟩,
     ⟨⟨.mv (.slot 5), some 13, some (12, true)⟩, []⟩,
     ⟨⟨.bin .leq 3 .num (.slot 13) (.const (.int .i64 (.ofNat 1500))), some 14, some (12, true)⟩, []⟩,
     ⟨⟨.pick (.slot 12) (.slot 14) (.const (.bool false)), some 15, none⟩, []⟩])
   (.cond (.slot 15)
    .skip
    (.exit 0)))
   (.seq (.block 1 (.region false [⟨⟨.mv (.slot 5), some 18, none⟩, []⟩,
     ⟨⟨.bin .add 3 .num (.slot 18) (.const (.int .i64 (.ofNat 1))), some 19, none⟩, []⟩,
     ⟨⟨.faddr 1 (.slot 2), some 20, none⟩, []⟩,
     ⟨⟨.load false 1 (.slot 20), some 21, none⟩, []⟩,
     ⟨⟨.mv (.slot 6), some 22, none⟩, []⟩,
     ⟨⟨.iaddr 1 (.slot 21) (.slot 22), some 23, none⟩, []⟩,
     ⟨⟨.load false 1 (.slot 23), some 24, none⟩, []⟩,
     ⟨⟨.len .slice (.slot 24), some 25, none⟩, []⟩,
     ⟨⟨.minmax true (.slot 25) (.const (.int .i64 (.ofNat 1500))), some 26, none⟩, []⟩,
     ⟨⟨.bin .add 3 .num (.slot 19) (.slot 26), some 27, none⟩, []⟩,
     ⟨⟨.mv (.slot 27), some 5, none⟩, []⟩]))
   (.region false [⟨⟨.mv (.slot 6), some 16, none⟩, []⟩,
     ⟨⟨.bin .add 3 .num (.slot 16) (.const (.int .i64 (.ofNat 1))), some 17, none⟩, []⟩,
     ⟨⟨.mv (.slot 17), some 6, none⟩, []⟩]))))))
  (.seq (.region false [⟨⟨.mv (.slot 5), some 28, none⟩, []⟩,
    ⟨⟨.bin .gtr 3 .num (.slot 28) (.const (.int .i64 (.ofNat 1500))), some 29, none⟩, []⟩,
    ⟨⟨.mv (.slot 29), some 30, none⟩, []⟩,
    ⟨⟨.faddr 1 (.slot 2), some 31, some (30, false)⟩, []⟩,
    ⟨⟨.load false 1 (.slot 31), some 32, some (30, false)⟩, []⟩,
    ⟨⟨.len .slice (.slot 32), some 33, some (30, false)⟩, []⟩,
    ⟨⟨.bin .gtr 3 .num (.slot 33) (.const (.int .i64 (.ofNat 200))), some 34, some (30, false)⟩, []⟩,
    ⟨⟨.pick (.slot 30) (.const (.bool true)) (.slot 34), some 35, none⟩, []⟩,
    ⟨⟨.mv (.slot 35), some 36, none⟩, []⟩,
    ⟨⟨.mv (.slot 1), some 37, some (36, false)⟩, []⟩,
    ⟨⟨.call (.const (.func 30 [] [])) [(.slot 37), (.const (.int .i64 (.ofNat 1500)))], some 38, some (36, false)⟩, []⟩,
    ⟨⟨.bin .gtr 3 .num (.slot 38) (.const (.int .i64 (.ofNat 1500))), some 39, some (36, false)⟩, []⟩,
    ⟨⟨.pick (.slot 36) (.const (.bool true)) (.slot 39), some 40, none⟩, []⟩,
    ⟨⟨.mv (.slot 40), some 4, none⟩, []⟩])
  .ret)))),
  [.tmp 4]⟩
theorem xf8_ok : compFunc Try.prog Try.f8 = some xf8 := by kernel_rfl
/-- threshing/threshinglaw06.works -/
def xf9 : XFunc := ⟨(.seq (.region false [⟨⟨.mv (.const (.bool false)), some 0, none⟩, []⟩])
  (.seq (.region false [⟨⟨.call (.const (.func 27 [] [])) [], some 5, none⟩, []⟩,
    ⟨⟨.bslice 1 [(.int .i32 (.ofNat 0))] [(0, 1, (.const (.int .i32 (.ofNat 1))))] 1, some 6, none⟩, []⟩,
    ⟨⟨.bslice 1 [(.int .i64 (.ofNat 0)), (.int .i64 (.ofNat 0))] [(0, 1, (.const (.int .i64 (.ofNat 1)))), (1, 1, (.const (.int .i64 (.ofNat 2))))] 2, some 7, none⟩, []⟩,
    ⟨⟨.call (.const (.func 12 [] [])) [(.const (.int .i64 (.ofNat 5))), (.slot 6), (.slot 7)], some 8, none⟩, []⟩,
    ⟨⟨.bslice 1 [(.int .i64 (.ofNat 0)), (.int .i64 (.ofNat 0)), (.int .i64 (.ofNat 0))] [(0, 1, (.const (.int .i64 (.ofNat 5)))), (1, 1, (.const (.int .i64 (.ofNat 3)))), (2, 1, (.const (.int .i64 (.ofNat 4))))] 3, some 9, none⟩, []⟩,
    ⟨⟨.call (.const (.func 12 [] [])) [(.const (.int .i64 (.ofNat 6))), (.const .nils), (.slot 9)], some 10, none⟩, []⟩,
    ⟨⟨.bslice 4 [(.int .u8 (.ofNat 0)), (.int .i64 (.ofNat 0)), .nils, .nils, (.int .u8 (.ofNat 0)), (.int .i64 (.ofNat 0)), .nils, .nils] [(0, 4, (.slot 8)), (4, 4, (.slot 10))] 2, some 11, none⟩, []⟩,
    ⟨⟨.call (.const (.func 10 [] [])) [(.slot 5), (.slot 11)], some 12, none⟩, []⟩,
    ⟨⟨.mv (.slot 12), some 4, none⟩, []⟩,
    ⟨⟨.extract (.slot 4) 0, some 13, none⟩, []⟩,
    ⟨⟨.extract (.slot 4) 1, some 14, none⟩, []⟩,
    ⟨⟨.extract (.slot 4) 2, some 15, none⟩, []⟩,
    ⟨⟨.mv (.slot 13), some 1, none⟩, []⟩,
    ⟨⟨.mv (.slot 14), some 2, none⟩, []⟩,
    ⟨⟨.mv (.slot 15), some 3, none⟩, []⟩])
  (.seq (.region false [⟨⟨.mv (.slot 1), some 16, none⟩, []⟩,
    ⟨⟨.mv (.slot 16), some 17, none⟩, []⟩,
    ⟨⟨.mv (.slot 2), some 18, some (17, true)⟩, []⟩,
    ⟨⟨.bin .eql 3 .num (.slot 18) (.const (.int .i64 (.ofNat 2))), some 19, some (17, true)⟩, []⟩,
    ⟨⟨.pick (.slot 17) (.slot 19) (.const (.bool false)), some 20, none⟩, []⟩,
    ⟨⟨.mv (.slot 20), some 21, none⟩, []⟩,
    ⟨⟨.mv (.slot 3), some 22, some (21, true)⟩, []⟩,
    ⟨⟨.bin .eql 28 .num (.slot 22) (.const (.int .i64 (.ofNat 0))), some 23, some (21, true)⟩, []⟩,
    ⟨⟨.pick (.slot 21) (.slot 23) (.const (.bool false)), some 24, none⟩, []⟩,
    ⟨⟨.mv (.slot 24), some 0, none⟩, []⟩])
  .ret))),
  [.tmp 0]⟩
theorem xf9_ok : compFunc Try.prog Try.f9 = some xf9 := by kernel_rfl
/-- threshing/check.Run -/
def xf10 : XFunc := ⟨(.seq (.region false [⟨⟨.box (.slot 0), some 2, none⟩, []⟩,
    ⟨⟨.mv (.const (.bool false)), some 4, none⟩, []⟩,
    ⟨⟨.mv (.const (.int .i64 (.ofNat 0))), some 5, none⟩, []⟩,
    ⟨⟨.mv (.const (.int .i64 (.ofNat 0))), some 6, none⟩, []⟩])
  (.seq (.region false [⟨⟨.load true 2 (.slot 2), some 12, none⟩, []⟩,
    ⟨⟨.call (.const (.func 14 [] [])) [(.slot 12)], some 13, none⟩, []⟩,
    ⟨⟨.mv (.slot 13), some 11, none⟩, []⟩,
    ⟨⟨.extract (.slot 11) 0, some 14, none⟩, []⟩,
    ⟨⟨.extract (.slot 11) 1, some 15, none⟩, []⟩,
    ⟨⟨.mv (.slot 14), some 7, none⟩, []⟩,
    ⟨⟨.mv (.slot 15), some 8, none⟩, []⟩])
  (.seq (.seq (.region false [⟨⟨.mv (.slot 8), some 16, none⟩, []⟩,
    ⟨⟨.bin .neq 28 .num (.slot 16) (.const (.int .i64 (.ofNat 0))), some 17, none⟩, []⟩])
  (.cond (.slot 17)
   (.seq (.region false [⟨⟨.mv (.slot 8), some 18, none⟩, []⟩,
     ⟨⟨.mv (.const (.bool false)), some 4, none⟩, []⟩,
     ⟨⟨.mv (.const (.int .i64 (.ofNat 0))), some 5, none⟩, []⟩,
     ⟨⟨.mv (.slot 18), some 6, none⟩, []⟩])
   .ret)
   .skip))
  (.seq (.region false [⟨⟨.mv (.const (.int .i64 (.ofNat 0))), some 9, none⟩, []⟩])
  (.seq (.block 0 (.loop (.seq (.seq (.region false [⟨⟨.mv (.slot 9), some 19, none⟩, []⟩,
     ⟨⟨.mv (.slot 1), some 20, none⟩, []⟩,
     ⟨⟨.len .slice (.slot 20), some 21, none⟩, []⟩,
     ⟨⟨.bin .lss 3 .num (.slot 19) (.slot 21), some 22, none⟩, []⟩,
     ⟨⟨.mv (.slot 22), some 23, none⟩, []⟩,
     ⟨⟨.mv (.slot 7), some 24, some (23, true)⟩, []⟩,
     ⟨⟨.nilCheck (.slot 24), some 25, some (23, true)⟩, []⟩,
     ⟨⟨.faddr 3 (.slot 25), some 26, some (23, true)⟩, []⟩,
     ⟨⟨.load false 1 (.slot 26), some 27, some (23, true)⟩, []⟩,
     ⟨⟨.un .not (.slot 27), some 28, some (23, true)⟩, []⟩,
     ⟨⟨.pick (.slot 23) (.slot 28) (.const (.bool false)), some 29, none⟩, []⟩])
   (.cond (.slot 29)
    .skip
    (.exit 0)))
   (.seq (.block 1 (.seq (.region false [⟨⟨.mv (.slot 7), some 32, none⟩, []⟩,
     ⟨⟨.mv (.slot 1), some 33, none⟩, []⟩,
     ⟨⟨.mv (.slot 9), some 34, none⟩, []⟩,
     ⟨⟨.iaddr 4 (.slot 33) (.slot 34), some 35, none⟩, []⟩,
     ⟨⟨.load true 4 (.slot 35), some 36, none⟩, []⟩,
     ⟨⟨.call (.const (.func 15 [] [])) [(.slot 32), (.slot 36)], some 37, none⟩, []⟩,
     ⟨⟨.mv (.slot 37), some 10, none⟩, []⟩])
   (.seq (.region false [⟨⟨.mv (.slot 10), some 38, none⟩, []⟩,
     ⟨⟨.bin .neq 28 .num (.slot 38) (.const (.int .i64 (.ofNat 0))), some 39, none⟩, []⟩])
   (.cond (.slot 39)
    (.seq (.region false [⟨⟨.mv (.slot 9), some 40, none⟩, []⟩,
      ⟨⟨.mv (.slot 10), some 41, none⟩, []⟩,
      ⟨⟨.mv (.const (.bool false)), some 4, none⟩, []⟩,
      ⟨⟨.mv (.slot 40), some 5, none⟩, []⟩,
      ⟨⟨.mv (.slot 41), some 6, none⟩, []⟩])
    .ret)
    .skip))))
   (.region false [⟨⟨.mv (.slot 9), some 30, none⟩, []⟩,
     ⟨⟨.bin .add 3 .num (.slot 30) (.const (.int .i64 (.ofNat 1))), some 31, none⟩, []⟩,
     ⟨⟨.mv (.slot 31), some 9, none⟩, []⟩])))))
  (.seq (.region false [⟨⟨.mv (.slot 7), some 42, none⟩, []⟩,
    ⟨⟨.nilCheck (.slot 42), some 43, none⟩, []⟩,
    ⟨⟨.faddr 3 (.slot 43), some 44, none⟩, []⟩,
    ⟨⟨.load false 1 (.slot 44), some 45, none⟩, []⟩,
    ⟨⟨.mv (.slot 9), some 46, none⟩, []⟩,
    ⟨⟨.mv (.slot 45), some 4, none⟩, []⟩,
    ⟨⟨.mv (.slot 46), some 5, none⟩, []⟩,
    ⟨⟨.mv (.const (.int .i64 (.ofNat 0))), some 6, none⟩, []⟩])
  .ret)))))),
  [.tmp 4, .tmp 5, .tmp 6]⟩
theorem xf10_ok : compFunc Try.prog Try.f10 = some xf10 := by kernel_rfl
end Go.Proofs.Yteeidjmjeefpnaa

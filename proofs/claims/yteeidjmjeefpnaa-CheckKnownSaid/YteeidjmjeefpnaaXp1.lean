/- The functions of the program in X's code, printed by a program of ours; each is what the program's own is turned to. -/
import Derived.Test.YteeidjmjeefpnaaProg
import Derived.Test.YteeidjmjeefpnaaXc
import Derived.KernelRfl
namespace Go.Proofs.Yteeidjmjeefpnaa
open Go.Xr
/-- threshing/threshingref06.Run -/
def xf11 : XFunc := ⟨(.seq (.region false [⟨⟨.box (.slot 0), some 2, none⟩, []⟩,
    ⟨⟨.mv (.const (.bool false)), some 4, none⟩, []⟩,
    ⟨⟨.mv (.const (.int .i64 (.ofNat 0))), some 5, none⟩, []⟩,
    ⟨⟨.mv (.const (.int .i64 (.ofNat 0))), some 6, none⟩, []⟩])
  (.seq (.region false [⟨⟨.load true 2 (.slot 2), some 11, none⟩, []⟩,
    ⟨⟨.call (.const (.func 31 [] [])) [(.slot 11)], some 12, none⟩, []⟩,
    ⟨⟨.mv (.slot 12), some 10, none⟩, []⟩,
    ⟨⟨.extract (.slot 10) 0, some 13, none⟩, []⟩,
    ⟨⟨.extract (.slot 10) 1, some 14, none⟩, []⟩,
    ⟨⟨.mv (.slot 13), some 7, none⟩, []⟩,
    ⟨⟨.mv (.slot 14), some 8, none⟩, []⟩])
  (.seq (.seq (.region false [⟨⟨.mv (.slot 8), some 15, none⟩, []⟩,
    ⟨⟨.bin .neq 28 .num (.slot 15) (.const (.int .i64 (.ofNat 0))), some 16, none⟩, []⟩])
  (.cond (.slot 16)
   (.seq (.region false [⟨⟨.mv (.slot 8), some 17, none⟩, []⟩,
     ⟨⟨.mv (.const (.bool false)), some 4, none⟩, []⟩,
     ⟨⟨.mv (.const (.int .i64 (.ofNat 0))), some 5, none⟩, []⟩,
     ⟨⟨.mv (.slot 17), some 6, none⟩, []⟩])
   .ret)
   .skip))
  (.seq (.seq (.region false [⟨⟨.mv (.const (.int .i64 (.ofNat 0))), some 9, none⟩, []⟩])
  (.block 0 (.loop (.seq (.seq (.region false [⟨⟨.mv (.slot 9), some 18, none⟩, []⟩,
     ⟨⟨.mv (.slot 1), some 19, none⟩, []⟩,
     ⟨⟨.len .slice (.slot 19), some 20, none⟩, []⟩,
     ⟨⟨.bin .lss 3 .num (.slot 18) (.slot 20), some 21, none⟩, []⟩,
     ⟨⟨.mv (.slot 21), some 22, none⟩, []⟩,
     ⟨⟨.mv (.slot 7), some 23, some (22, true)⟩, []⟩,
     ⟨⟨.nilCheck (.slot 23), some 24, some (22, true)⟩, []⟩,
     ⟨⟨.faddr 2 (.slot 24), some 25, some (22, true)⟩, []⟩,
     ⟨⟨.load false 1 (.slot 25), some 26, some (22, true)⟩, []⟩,
     ⟨⟨.un .not (.slot 26), some 27, some (22, true)⟩, []⟩,
     ⟨⟨.pick (.slot 22) (.slot 27) (.const (.bool false)), some 28, none⟩, []⟩])
   (.cond (.slot 28)
    .skip
    (.exit 0)))
   (.seq (.block 1 (.seq (.region false [⟨⟨.mv (.slot 7), some 31, none⟩, []⟩,
     ⟨⟨.mv (.slot 1), some 32, none⟩, []⟩,
     ⟨⟨.mv (.slot 9), some 33, none⟩, []⟩,
     ⟨⟨.iaddr 4 (.slot 32) (.slot 33), some 34, none⟩, []⟩,
     ⟨⟨.load true 4 (.slot 34), some 35, none⟩, []⟩,
     ⟨⟨.call (.const (.func 32 [] [])) [(.slot 31), (.slot 35)], some 36, none⟩, []⟩,
     ⟨⟨.mv (.slot 36), some 8, none⟩, []⟩])
   (.seq (.seq (.region false [⟨⟨.mv (.slot 8), some 37, none⟩, []⟩,
     ⟨⟨.bin .neq 28 .num (.slot 37) (.const (.int .i64 (.ofNat 0))), some 38, none⟩, []⟩])
   (.cond (.slot 38)
    (.seq (.region false [⟨⟨.mv (.slot 9), some 39, none⟩, []⟩,
      ⟨⟨.mv (.slot 8), some 40, none⟩, []⟩,
      ⟨⟨.mv (.const (.bool false)), some 4, none⟩, []⟩,
      ⟨⟨.mv (.slot 39), some 5, none⟩, []⟩,
      ⟨⟨.mv (.slot 40), some 6, none⟩, []⟩])
    .ret)
    .skip))
   (.seq (.region false [⟨⟨.mv (.slot 7), some 41, none⟩, []⟩,
     ⟨⟨.nilCheck (.slot 41), some 42, none⟩, []⟩,
     ⟨⟨.faddr 2 (.slot 42), some 43, none⟩, []⟩,
     ⟨⟨.load false 1 (.slot 43), some 44, none⟩, []⟩])
   (.cond (.slot 44)
    (.seq (.region false [⟨⟨.mv (.slot 9), some 45, none⟩, []⟩,
      ⟨⟨.bin .add 3 .num (.slot 45) (.const (.int .i64 (.ofNat 1))), some 46, none⟩, []⟩,
      ⟨⟨.mv (.const (.bool true)), some 4, none⟩, []⟩,
      ⟨⟨.mv (.slot 46), some 5, none⟩, []⟩,
      ⟨⟨.mv (.const (.int .i64 (.ofNat 0))), some 6, none⟩, []⟩])
    .ret)
    .skip)))))
   (.region false [⟨⟨.mv (.slot 9), some 29, none⟩, []⟩,
     ⟨⟨.bin .add 3 .num (.slot 29) (.const (.int .i64 (.ofNat 1))), some 30, none⟩, []⟩,
     ⟨⟨.mv (.slot 30), some 9, none⟩, []⟩]))))))
  (.seq (.seq (.region false [⟨⟨.mv (.slot 7), some 47, none⟩, []⟩,
    ⟨⟨.nilCheck (.slot 47), some 48, none⟩, []⟩,
    ⟨⟨.faddr 2 (.slot 48), some 49, none⟩, []⟩,
    ⟨⟨.load false 1 (.slot 49), some 50, none⟩, []⟩])
  (.cond (.slot 50)
   (.seq (.region false [⟨⟨.mv (.const (.bool true)), some 4, none⟩, []⟩,
     ⟨⟨.mv (.const (.int .i64 (.ofNat 0))), some 5, none⟩, []⟩,
     ⟨⟨.mv (.const (.int .i64 (.ofNat 0))), some 6, none⟩, []⟩])
   .ret)
   .skip))
  (.seq (.region false [⟨⟨.mv (.slot 1), some 51, none⟩, []⟩,
    ⟨⟨.len .slice (.slot 51), some 52, none⟩, []⟩,
    ⟨⟨.mv (.const (.bool false)), some 4, none⟩, []⟩,
    ⟨⟨.mv (.slot 52), some 5, none⟩, []⟩,
    ⟨⟨.mv (.const (.int .i64 (.ofNat 0))), some 6, none⟩, []⟩])
  .ret)))))),
  [.tmp 4, .tmp 5, .tmp 6]⟩
theorem xf11_ok : compFunc Try.prog Try.f11 = some xf11 := by kernel_rfl
/-- threshing/threshinglaw06.add -/
def xf12 : XFunc := ⟨(.seq (.region false [⟨⟨.alloc [(.int .u8 (.ofNat 0)), (.int .i64 (.ofNat 0)), .nils, .nils], some 6, none⟩, []⟩])
  (.seq (.region false [⟨⟨.mv (.slot 0), some 7, none⟩, []⟩,
    ⟨⟨.mv (.slot 1), some 8, none⟩, []⟩,
    ⟨⟨.mv (.slot 2), some 9, none⟩, []⟩,
    ⟨⟨.build [(.int .u8 (.ofNat 0)), (.int .i64 (.ofNat 0)), .nils, .nils] [(0, 1, (.const (.int .u8 (.ofNat 1)))), (1, 1, (.slot 7)), (2, 1, (.slot 8)), (3, 1, (.slot 9))], some 10, none⟩, []⟩,
    ⟨⟨.store 4 (.slot 6) (.slot 10), none, none⟩, []⟩])
  .ret)),
  [.cell 6 true 4]⟩
theorem xf12_ok : compFunc Try.prog Try.f12 = some xf12 := by kernel_rfl
/-- threshing/threshinglaw06.plain -/
def xf13 : XFunc := ⟨(.seq (.region false [⟨⟨.mv (.const (.bool false)), some 2, none⟩, []⟩])
  (.seq (.seq (.region false [⟨⟨.mv (.const (.int .i64 (.ofNat 0))), some 3, none⟩, []⟩])
  (.block 0 (.loop (.seq (.seq (.region false [⟨⟨.mv (.slot 3), some 4, none⟩, []⟩,
     ⟨⟨.mv (.slot 0), some 5, none⟩, []⟩,
     ⟨⟨.len .slice (.slot 5), some 6, none⟩, []⟩,
     ⟨⟨.bin .lss 3 .num (.slot 4) (.slot 6), some 7, none⟩, []⟩])
   (.cond (.slot 7)
    .skip
    (.exit 0)))
   (.seq (.block 1 (.seq (.region false [⟨⟨.mv (.slot 0), some 10, none⟩, []⟩,
     ⟨⟨.mv (.slot 3), some 11, none⟩, []⟩,
     ⟨⟨.iaddr 1 (.slot 10) (.slot 11), some 12, none⟩, []⟩,
     ⟨⟨.load false 1 (.slot 12), some 13, none⟩, []⟩,
     ⟨⟨.bin .lss 2 .num (.slot 13) (.const (.int .i64 (.ofNat 0))), some 14, none⟩, []⟩])
   (.cond (.slot 14)
    (.seq (.region false [⟨⟨.mv (.const (.bool false)), some 2, none⟩, []⟩])
    .ret)
    .skip)))
   (.region false [⟨⟨.mv (.slot 3), some 8, none⟩, []⟩,
     ⟨⟨.bin .add 3 .num (.slot 8) (.const (.int .i64 (.ofNat 1))), some 9, none⟩, []⟩,
     ⟨⟨.mv (.slot 9), some 3, none⟩, []⟩]))))))
  (.seq (.region false [⟨⟨.mv (.const (.bool true)), some 2, none⟩, []⟩])
  .ret))),
  [.tmp 2]⟩
theorem xf13_ok : compFunc Try.prog Try.f13 = some xf13 := by kernel_rfl
/-- threshing/check.New -/
def xf14 : XFunc := ⟨(.seq (.region false [⟨⟨.box (.slot 0), some 1, none⟩, []⟩,
    ⟨⟨.mv (.const .nilp), some 2, none⟩, []⟩,
    ⟨⟨.mv (.const (.int .i64 (.ofNat 0))), some 3, none⟩, []⟩])
  (.seq (.seq (.region false [⟨⟨.load true 2 (.slot 1), some 8, none⟩, []⟩,
    ⟨⟨.call (.const (.func 33 [] [])) [(.slot 8)], some 9, none⟩, []⟩,
    ⟨⟨.mv (.slot 9), some 4, none⟩, []⟩])
  (.seq (.region false [⟨⟨.mv (.slot 4), some 10, none⟩, []⟩,
    ⟨⟨.bin .neq 28 .num (.slot 10) (.const (.int .i64 (.ofNat 0))), some 11, none⟩, []⟩])
  (.cond (.slot 11)
   (.seq (.region false [⟨⟨.mv (.slot 4), some 12, none⟩, []⟩,
     ⟨⟨.mv (.const .nilp), some 2, none⟩, []⟩,
     ⟨⟨.mv (.slot 12), some 3, none⟩, []⟩])
   .ret)
   .skip)))
  (.seq (.region false [⟨⟨.mkmap .i64, some 13, none⟩, []⟩,
    ⟨⟨.build [.nilm, (.int .i64 (.ofNat 0)), (.int .i64 (.ofNat 0)), (.bool false), .nils, .nils] [(0, 1, (.slot 13))], some 14, none⟩, []⟩,
    ⟨⟨.box (.slot 14), some 15, none⟩, []⟩,
    ⟨⟨.mv (.slot 15), some 5, none⟩, []⟩])
  (.seq (.seq (.region false [⟨⟨.faddr 1 (.slot 1), some 16, none⟩, []⟩,
    ⟨⟨.load false 1 (.slot 16), some 17, none⟩, []⟩,
    ⟨⟨.len .slice (.slot 17), some 18, none⟩, []⟩,
    ⟨⟨.mv (.const (.int .i64 (.ofNat 0))), some 19, none⟩, []⟩])
  (.block 0 (.loop (.seq (.region false [⟨⟨.bin .lss 3 .num (.slot 19) (.slot 18), some 20, none⟩, []⟩])
   (.seq (.cond (.slot 20)
    .skip
    (.exit 0))
   (.seq (.block 1 (.seq (.region false [⟨⟨.mv (.slot 19), some 21, none⟩, []⟩,
     ⟨⟨.iaddr 1 (.slot 17) (.slot 19), some 22, none⟩, []⟩,
     ⟨⟨.load false 1 (.slot 22), some 23, none⟩, []⟩,
     ⟨⟨.mv (.slot 21), some 6, none⟩, []⟩,
     ⟨⟨.mv (.slot 23), some 7, none⟩, []⟩])
   (.region false [⟨⟨.mv (.slot 5), some 24, none⟩, []⟩,
     ⟨⟨.mv (.slot 6), some 25, none⟩, []⟩,
     ⟨⟨.bin .add 3 .num (.slot 25) (.const (.int .i64 (.ofNat 1))), some 26, none⟩, []⟩,
     ⟨⟨.mv (.slot 7), some 27, none⟩, []⟩,
     ⟨⟨.call (.const (.func 34 [] [])) [(.slot 24), (.slot 26), (.slot 27)], some 28, none⟩, []⟩])))
   (.region false [⟨⟨.bin .add 3 .num (.slot 19) (.const (.int .i64 (.ofNat 1))), some 29, none⟩, []⟩,
     ⟨⟨.mv (.slot 29), some 19, none⟩, []⟩])))))))
  (.seq (.region false [⟨⟨.mv (.slot 5), some 30, none⟩, []⟩,
    ⟨⟨.mv (.slot 30), some 2, none⟩, []⟩,
    ⟨⟨.mv (.const (.int .i64 (.ofNat 0))), some 3, none⟩, []⟩])
  .ret))))),
  [.tmp 2, .tmp 3]⟩
theorem xf14_ok : compFunc Try.prog Try.f14 = some xf14 := by kernel_rfl
/-- (*threshing/check.Checker).Step -/
def xf15 : XFunc := ⟨(.seq (.region false [⟨⟨.box (.slot 1), some 3, none⟩, []⟩,
    ⟨⟨.mv (.const (.int .i64 (.ofNat 0))), some 4, none⟩, []⟩])
  (.seq (.block 0 (.seq (.region false [⟨⟨.mv (.slot 0), some 7, none⟩, []⟩,
    ⟨⟨.bin .eql 38 .ptr (.slot 7) (.const .nilp), some 8, none⟩, []⟩,
    ⟨⟨.mv (.slot 8), some 6, none⟩, []⟩])
  (.cond (.slot 6)
   (.seq (.region false [⟨⟨.mv (.const (.int .i64 (.ofNat 1))), some 4, none⟩, []⟩])
   .ret)
   (.seq (.region false [⟨⟨.load true 4 (.slot 3), some 10, none⟩, []⟩,
     ⟨⟨.call (.const (.func 35 [] [])) [(.slot 10)], some 11, none⟩, []⟩,
     ⟨⟨.un .not (.slot 11), some 12, none⟩, []⟩,
     ⟨⟨.mv (.slot 12), some 9, none⟩, []⟩])
   (.cond (.slot 9)
    (.seq (.region false [⟨⟨.mv (.const (.int .i64 (.ofNat 40))), some 4, none⟩, []⟩])
    .ret)
    (.seq (.region false [⟨⟨.faddr 0 (.slot 3), some 14, none⟩, []⟩,
      ⟨⟨.load false 1 (.slot 14), some 15, none⟩, []⟩,
      ⟨⟨.bin .eql 5 .num (.slot 15) (.const (.int .u8 (.ofNat 2))), some 16, none⟩, []⟩,
      ⟨⟨.mv (.slot 16), some 13, none⟩, []⟩])
    (.cond (.slot 13)
     (.seq (.region false [⟨⟨.mv (.slot 0), some 17, none⟩, []⟩,
       ⟨⟨.faddr 3 (.slot 3), some 18, none⟩, []⟩,
       ⟨⟨.load false 1 (.slot 18), some 19, none⟩, []⟩,
       ⟨⟨.call (.const (.func 36 [] [])) [(.slot 17), (.slot 19)], some 20, none⟩, []⟩,
       ⟨⟨.mv (.slot 20), some 4, none⟩, []⟩])
     .ret)
     (.seq (.region true [⟨⟨.faddr 1 (.slot 3), some 22, none⟩, []⟩,
       ⟨⟨.load false 1 (.slot 22), some 23, none⟩, []⟩,
       ⟨⟨.mv (.slot 0), some 24, none⟩, []⟩,
       ⟨⟨.nilCheck (.slot 24), some 25, none⟩, []⟩,
       ⟨⟨.faddr 1 (.slot 25), some 26, none⟩, []⟩,
       ⟨⟨.load false 1 (.slot 26), some 27, none⟩, []⟩,
       ⟨⟨.bin .leq 2 .num (.slot 23) (.slot 27), some 28, none⟩, []⟩,
       ⟨⟨.mv (.slot 28), some 21, none⟩, []⟩])
     (.cond (.slot 21)
      (.seq (.region false [⟨⟨.mv (.const (.int .i64 (.ofNat 62))), some 4, none⟩, []⟩])
      .ret)
      .skip)))))))))
  (.seq (.seq (.region false [⟨⟨.mv (.slot 0), some 29, none⟩, []⟩,
    ⟨⟨.faddr 2 (.slot 3), some 30, none⟩, []⟩,
    ⟨⟨.load false 1 (.slot 30), some 31, none⟩, []⟩,
    ⟨⟨.faddr 3 (.slot 3), some 32, none⟩, []⟩,
    ⟨⟨.load false 1 (.slot 32), some 33, none⟩, []⟩,
    ⟨⟨.call (.const (.func 37 [] [])) [(.slot 29), (.slot 31), (.slot 33)], some 34, none⟩, []⟩,
    ⟨⟨.mv (.slot 34), some 5, none⟩, []⟩])
  (.seq (.region false [⟨⟨.mv (.slot 5), some 35, none⟩, []⟩,
    ⟨⟨.bin .neq 28 .num (.slot 35) (.const (.int .i64 (.ofNat 0))), some 36, none⟩, []⟩])
  (.cond (.slot 36)
   (.seq (.region false [⟨⟨.mv (.slot 5), some 37, none⟩, []⟩,
     ⟨⟨.mv (.slot 37), some 4, none⟩, []⟩])
   .ret)
   .skip)))
  (.seq (.seq (.region true [⟨⟨.mv (.slot 0), some 38, none⟩, []⟩,
    ⟨⟨.nilCheck (.slot 38), some 39, none⟩, []⟩,
    ⟨⟨.faddr 2 (.slot 39), some 40, none⟩, []⟩,
    ⟨⟨.load false 1 (.slot 40), some 41, none⟩, []⟩,
    ⟨⟨.faddr 2 (.slot 3), some 42, none⟩, []⟩,
    ⟨⟨.load false 1 (.slot 42), some 43, none⟩, []⟩,
    ⟨⟨.len .slice (.slot 43), some 44, none⟩, []⟩,
    ⟨⟨.bin .add 3 .num (.slot 41) (.slot 44), some 45, none⟩, []⟩,
    ⟨⟨.bin .gtr 3 .num (.slot 45) (.const (.int .i64 (.ofNat 16777216))), some 46, none⟩, []⟩])
  (.cond (.slot 46)
   (.seq (.region false [⟨⟨.mv (.const (.int .i64 (.ofNat 3))), some 4, none⟩, []⟩])
   .ret)
   .skip))
  (.seq (.region false [⟨⟨.mv (.slot 0), some 47, none⟩, []⟩,
    ⟨⟨.faddr 1 (.slot 3), some 48, none⟩, []⟩,
    ⟨⟨.load false 1 (.slot 48), some 49, none⟩, []⟩,
    ⟨⟨.faddr 2 (.slot 3), some 50, none⟩, []⟩,
    ⟨⟨.load false 1 (.slot 50), some 51, none⟩, []⟩,
    ⟨⟨.call (.const (.func 34 [] [])) [(.slot 47), (.slot 49), (.slot 51)], some 52, none⟩, []⟩])
  (.seq (.region false [⟨⟨.mv (.const (.int .i64 (.ofNat 0))), some 4, none⟩, []⟩])
  .ret)))))),
  [.tmp 4]⟩
theorem xf15_ok : compFunc Try.prog Try.f15 = some xf15 := by kernel_rfl
/-- threshing/threshingref03.Model -/
def xf16 : XFunc := ⟨(.seq (.region false [⟨⟨.mv (.const .nils), some 4, none⟩, []⟩])
  (.seq (.region false [⟨⟨.mv (.const .nils), some 5, none⟩, []⟩])
  (.seq (.seq (.region false [⟨⟨.mv (.const (.int .i64 (.ofNat 0))), some 6, none⟩, []⟩])
  (.block 0 (.loop (.seq (.seq (.region false [⟨⟨.mv (.slot 6), some 7, none⟩, []⟩,
     ⟨⟨.mv (.slot 0), some 8, none⟩, []⟩,
     ⟨⟨.bin .lss 3 .num (.slot 7) (.slot 8), some 9, none⟩, []⟩])
   (.cond (.slot 9)
    .skip
    (.exit 0)))
   (.seq (.block 1 (.region false [⟨⟨.mv (.slot 5), some 12, none⟩, []⟩,
     ⟨⟨.mv (.slot 1), some 13, none⟩, []⟩,
     ⟨⟨.mv (.slot 6), some 14, none⟩, []⟩,
     ⟨⟨.bin .shr 3 .num (.slot 13) (.slot 14), some 15, none⟩, []⟩,
     ⟨⟨.bin .and 3 .num (.slot 15) (.const (.int .i64 (.ofNat 1))), some 16, none⟩, []⟩,
     ⟨⟨.bin .eql 3 .num (.slot 16) (.const (.int .i64 (.ofNat 1))), some 17, none⟩, []⟩,
     ⟨⟨.bslice 1 [(.bool false)] [(0, 1, (.slot 17))] 1, some 18, none⟩, []⟩,
     ⟨⟨.append 1 1 (.slot 12) (.slot 18), some 19, none⟩, []⟩,
     ⟨⟨.mv (.slot 19), some 5, none⟩, []⟩]))
   (.region false [⟨⟨.mv (.slot 6), some 10, none⟩, []⟩,
     ⟨⟨.bin .add 3 .num (.slot 10) (.const (.int .i64 (.ofNat 1))), some 11, none⟩, []⟩,
     ⟨⟨.mv (.slot 11), some 6, none⟩, []⟩]))))))
  (.seq (.region false [⟨⟨.mv (.slot 5), some 20, none⟩, []⟩,
    ⟨⟨.mv (.slot 20), some 4, none⟩, []⟩])
  .ret)))),
  [.tmp 4]⟩
theorem xf16_ok : compFunc Try.prog Try.f16 = some xf16 := by kernel_rfl
/-- threshing/threshingref01.Holds -/
def xf17 : XFunc := ⟨(.seq (.region false [⟨⟨.box (.slot 0), some 2, none⟩, []⟩,
    ⟨⟨.mv (.const (.bool false)), some 4, none⟩, []⟩])
  (.seq (.seq (.region false [⟨⟨.mv (.const (.int .i64 (.ofNat 0))), some 5, none⟩, []⟩])
  (.block 0 (.loop (.seq (.seq (.region false [⟨⟨.mv (.slot 5), some 6, none⟩, []⟩,
     ⟨⟨.faddr 1 (.slot 2), some 7, none⟩, []⟩,
     ⟨⟨.load false 1 (.slot 7), some 8, none⟩, []⟩,
     ⟨⟨.len .slice (.slot 8), some 9, none⟩, []⟩,
     ⟨⟨.bin .lss 3 .num (.slot 6) (.slot 9), some 10, none⟩, []⟩])
   (.cond (.slot 10)
    .skip
    (.exit 0)))
   (.seq (.block 1 (.seq (.region false [⟨⟨.faddr 1 (.slot 2), some 13, none⟩, []⟩,
     ⟨⟨.load false 1 (.slot 13), some 14, none⟩, []⟩,
     ⟨⟨.mv (.slot 5), some 15, none⟩, []⟩,
     ⟨⟨.iaddr 1 (.slot 14) (.slot 15), some 16, none⟩, []⟩,
     ⟨⟨.load false 1 (.slot 16), some 17, none⟩, []⟩,
     ⟨⟨.mv (.slot 1), some 18, none⟩, []⟩,
     ⟨⟨.call (.const (.func 18 [] [])) [(.slot 17), (.slot 18)], some 19, none⟩, []⟩,
     ⟨⟨.un .not (.slot 19), some 20, none⟩, []⟩])
   (.cond (.slot 20)
    (.seq (.region false [⟨⟨.mv (.const (.bool false)), some 4, none⟩, []⟩])
    .ret)
    .skip)))
   (.region false [⟨⟨.mv (.slot 5), some 11, none⟩, []⟩,
     ⟨⟨.bin .add 3 .num (.slot 11) (.const (.int .i64 (.ofNat 1))), some 12, none⟩, []⟩,
     ⟨⟨.mv (.slot 12), some 5, none⟩, []⟩]))))))
  (.seq (.region false [⟨⟨.mv (.const (.bool true)), some 4, none⟩, []⟩])
  .ret))),
  [.tmp 4]⟩
theorem xf17_ok : compFunc Try.prog Try.f17 = some xf17 := by kernel_rfl
/-- threshing/threshingref01.Value -/
def xf18 : XFunc := ⟨(.seq (.region false [⟨⟨.mv (.const (.bool false)), some 4, none⟩, []⟩])
  (.seq (.seq (.region false [⟨⟨.mv (.const (.int .i64 (.ofNat 0))), some 5, none⟩, []⟩])
  (.block 0 (.loop (.seq (.seq (.region false [⟨⟨.mv (.slot 5), some 6, none⟩, []⟩,
     ⟨⟨.mv (.slot 0), some 7, none⟩, []⟩,
     ⟨⟨.len .slice (.slot 7), some 8, none⟩, []⟩,
     ⟨⟨.bin .lss 3 .num (.slot 6) (.slot 8), some 9, none⟩, []⟩])
   (.cond (.slot 9)
    .skip
    (.exit 0)))
   (.seq (.block 1 (.seq (.region false [⟨⟨.mv (.slot 0), some 12, none⟩, []⟩,
     ⟨⟨.mv (.slot 5), some 13, none⟩, []⟩,
     ⟨⟨.iaddr 1 (.slot 12) (.slot 13), some 14, none⟩, []⟩,
     ⟨⟨.load false 1 (.slot 14), some 15, none⟩, []⟩,
     ⟨⟨.mv (.slot 1), some 16, none⟩, []⟩,
     ⟨⟨.call (.const (.func 38 [] [])) [(.slot 15), (.slot 16)], some 17, none⟩, []⟩])
   (.cond (.slot 17)
    (.seq (.region false [⟨⟨.mv (.const (.bool true)), some 4, none⟩, []⟩])
    .ret)
    .skip)))
   (.region false [⟨⟨.mv (.slot 5), some 10, none⟩, []⟩,
     ⟨⟨.bin .add 3 .num (.slot 10) (.const (.int .i64 (.ofNat 1))), some 11, none⟩, []⟩,
     ⟨⟨.mv (.slot 11), some 5, none⟩, []⟩]))))))
  (.seq (.region false [⟨⟨.mv (.const (.bool false)), some 4, none⟩, []⟩])
  .ret))),
  [.tmp 4]⟩
theorem xf18_ok : compFunc Try.prog Try.f18 = some xf18 := by kernel_rfl
/-- threshing/threshinglaw06.over -/
def xf19 : XFunc := ⟨(.seq (.region false [⟨⟨.mv (.const (.bool false)), some 4, none⟩, []⟩])
  (.seq (.seq (.region false [⟨⟨.mv (.const (.int .i64 (.ofNat 0))), some 5, none⟩, []⟩])
  (.block 0 (.loop (.seq (.seq (.region false [⟨⟨.mv (.slot 5), some 6, none⟩, []⟩,
     ⟨⟨.mv (.slot 0), some 7, none⟩, []⟩,
     ⟨⟨.len .slice (.slot 7), some 8, none⟩, []⟩,
     ⟨⟨.bin .lss 3 .num (.slot 6) (.slot 8), some 9, none⟩, []⟩])
   (.cond (.slot 9)
    .skip
    (.exit 0)))
   (.seq (.block 1 (.seq (.region false [⟨⟨.mv (.slot 0), some 12, none⟩, []⟩,
     ⟨⟨.mv (.slot 5), some 13, none⟩, []⟩,
     ⟨⟨.iaddr 1 (.slot 12) (.slot 13), some 14, none⟩, []⟩,
     ⟨⟨.load false 1 (.slot 14), some 15, none⟩, []⟩,
     ⟨⟨.call (.const (.func 39 [] [])) [(.slot 15)], some 16, none⟩, []⟩,
     ⟨⟨.mv (.slot 1), some 17, none⟩, []⟩,
     ⟨⟨.bin .gtr 3 .num (.slot 16) (.slot 17), some 18, none⟩, []⟩])
   (.cond (.slot 18)
    (.seq (.region false [⟨⟨.mv (.const (.bool false)), some 4, none⟩, []⟩])
    .ret)
    .skip)))
   (.region false [⟨⟨.mv (.slot 5), some 10, none⟩, []⟩,
     ⟨⟨.bin .add 3 .num (.slot 10) (.const (.int .i64 (.ofNat 1))), some 11, none⟩, []⟩,
     ⟨⟨.mv (.slot 11), some 5, none⟩, []⟩]))))))
  (.seq (.region false [⟨⟨.mv (.const (.bool true)), some 4, none⟩, []⟩])
  .ret))),
  [.tmp 4]⟩
theorem xf19_ok : compFunc Try.prog Try.f19 = some xf19 := by kernel_rfl
/-- threshing/threshinglaw06.fresh -/
def xf20 : XFunc := ⟨(.seq (.region false [⟨⟨.box (.slot 0), some 2, none⟩, []⟩,
    ⟨⟨.mv (.const (.bool false)), some 4, none⟩, []⟩])
  (.seq (.seq (.region false [⟨⟨.mv (.const (.int .i64 (.ofNat 0))), some 5, none⟩, []⟩])
  (.block 0 (.loop (.seq (.seq (.region false [⟨⟨.mv (.slot 5), some 6, none⟩, []⟩,
     ⟨⟨.faddr 1 (.slot 2), some 7, none⟩, []⟩,
     ⟨⟨.load false 1 (.slot 7), some 8, none⟩, []⟩,
     ⟨⟨.len .slice (.slot 8), some 9, none⟩, []⟩,
     ⟨⟨.bin .lss 3 .num (.slot 6) (.slot 9), some 10, none⟩, []⟩,
     ⟨⟨.mv (.slot 10), some 11, none⟩, []⟩,
     ⟨⟨.mv (.slot 1), some 12, some (11, true)⟩, []⟩,
     ⟨⟨.len .slice (.slot 12), some 13, some (11, true)⟩, []⟩,
     ⟨⟨.bin .gtr 3 .num (.slot 13) (.const (.int .i64 (.ofNat 0))), some 14, some (11, true)⟩, []⟩,
     ⟨⟨.pick (.slot 11) (.slot 14) (.const (.bool false)), some 15, none⟩, []⟩])
   (.cond (.slot 15)
    .skip
    (.exit 0)))
   (.seq (.block 1 (.seq (.region true [⟨⟨.faddr 1 (.slot 2), some 18, none⟩, []⟩,
     ⟨⟨.load false 1 (.slot 18), some 19, none⟩, []⟩,
     ⟨⟨.mv (.slot 5), some 20, none⟩, []⟩,
     ⟨⟨.iaddr 1 (.slot 19) (.slot 20), some 21, none⟩, []⟩,
     ⟨⟨.load false 1 (.slot 21), some 22, none⟩, []⟩,
     ⟨⟨.mv (.slot 1), some 23, none⟩, []⟩,
     ⟨⟨.iaddr 1 (.slot 23) (.const (.int .i64 (.ofNat 0))), some 24, none⟩, []⟩,
     ⟨⟨.load false 1 (.slot 24), some 25, none⟩, []⟩,
     ⟨⟨.un .neg (.slot 25), some 26, none⟩, []⟩,
     ⟨⟨.call (.const (.func 40 [] [])) [(.slot 22), (.slot 26)], some 27, none⟩, []⟩])
   (.cond (.slot 27)
    (.seq (.region false [⟨⟨.mv (.const (.bool false)), some 4, none⟩, []⟩])
    .ret)
    .skip)))
   (.region false [⟨⟨.mv (.slot 5), some 16, none⟩, []⟩,
     ⟨⟨.bin .add 3 .num (.slot 16) (.const (.int .i64 (.ofNat 1))), some 17, none⟩, []⟩,
     ⟨⟨.mv (.slot 17), some 5, none⟩, []⟩]))))))
  (.seq (.region false [⟨⟨.mv (.slot 1), some 28, none⟩, []⟩,
    ⟨⟨.len .slice (.slot 28), some 29, none⟩, []⟩,
    ⟨⟨.bin .gtr 3 .num (.slot 29) (.const (.int .i64 (.ofNat 0))), some 30, none⟩, []⟩,
    ⟨⟨.mv (.slot 30), some 4, none⟩, []⟩])
  .ret))),
  [.tmp 4]⟩
theorem xf20_ok : compFunc Try.prog Try.f20 = some xf20 := by kernel_rfl
/-- threshing/threshinglaw06.doubled -/
def xf21 : XFunc := ⟨(.seq (.region false [⟨⟨.mv (.const .nils), some 2, none⟩, []⟩])
  (.seq (.region false [⟨⟨.mv (.const .nils), some 3, none⟩, []⟩])
  (.seq (.region false [⟨⟨.mv (.slot 3), some 4, none⟩, []⟩,
    ⟨⟨.mv (.slot 0), some 5, none⟩, []⟩,
    ⟨⟨.append 1 4 (.slot 4) (.slot 5), some 6, none⟩, []⟩,
    ⟨⟨.mv (.slot 6), some 3, none⟩, []⟩])
  (.seq (.region false [⟨⟨.mv (.slot 3), some 7, none⟩, []⟩,
    ⟨⟨.mv (.slot 0), some 8, none⟩, []⟩,
    ⟨⟨.append 1 4 (.slot 7) (.slot 8), some 9, none⟩, []⟩,
    ⟨⟨.mv (.slot 9), some 3, none⟩, []⟩])
  (.seq (.region false [⟨⟨.mv (.slot 3), some 10, none⟩, []⟩,
    ⟨⟨.mv (.slot 10), some 2, none⟩, []⟩])
  .ret))))),
  [.tmp 2]⟩
theorem xf21_ok : compFunc Try.prog Try.f21 = some xf21 := by kernel_rfl
/-- (*threshing/check.Checker).Live -/
def xf22 : XFunc := ⟨(.seq (.region false [⟨⟨.mv (.const .nils), some 2, none⟩, []⟩])
  (.seq (.seq (.region false [⟨⟨.mv (.slot 0), some 3, none⟩, []⟩,
    ⟨⟨.bin .eql 38 .ptr (.slot 3) (.const .nilp), some 4, none⟩, []⟩])
  (.cond (.slot 4)
   (.seq (.region false [⟨⟨.mv (.const .nils), some 2, none⟩, []⟩])
   .ret)
   .skip))
  (.seq (.region false [⟨⟨.mv (.slot 0), some 5, none⟩, []⟩,
    ⟨⟨.nilCheck (.slot 5), some 6, none⟩, []⟩,
    ⟨⟨.faddr 0 (.slot 6), some 7, none⟩, []⟩,
    ⟨⟨.load false 1 (.slot 7), some 8, none⟩, []⟩,
    ⟨⟨.call (.const (.func 42 [] [])) [(.slot 8)], some 9, none⟩, []⟩,
    ⟨⟨.call (.const (.func 41 [] [])) [(.slot 9)], some 10, none⟩, []⟩,
    ⟨⟨.mv (.slot 10), some 2, none⟩, []⟩])
  .ret))),
  [.tmp 2]⟩
theorem xf22_ok : compFunc Try.prog Try.f22 = some xf22 := by kernel_rfl
/-- (*threshing/check.Checker).Done -/
def xf23 : XFunc := ⟨(.seq (.region false [⟨⟨.mv (.const (.bool false)), some 2, none⟩, []⟩])
  (.seq (.region false [⟨⟨.mv (.slot 0), some 3, none⟩, []⟩,
    ⟨⟨.bin .neq 38 .ptr (.slot 3) (.const .nilp), some 4, none⟩, []⟩,
    ⟨⟨.mv (.slot 4), some 5, none⟩, []⟩,
    ⟨⟨.mv (.slot 0), some 6, some (5, true)⟩, []⟩,
    ⟨⟨.nilCheck (.slot 6), some 7, some (5, true)⟩, []⟩,
    ⟨⟨.faddr 3 (.slot 7), some 8, some (5, true)⟩, []⟩,
    ⟨⟨.load false 1 (.slot 8), some 9, some (5, true)⟩, []⟩,
    ⟨⟨.pick (.slot 5) (.slot 9) (.const (.bool false)), some 10, none⟩, []⟩,
    ⟨⟨.mv (.slot 10), some 2, none⟩, []⟩])
  .ret)),
  [.tmp 2]⟩
theorem xf23_ok : compFunc Try.prog Try.f23 = some xf23 := by kernel_rfl
/-- threshing/threshinglaw06.small -/
def xf24 : XFunc := ⟨(.seq (.region false [⟨⟨.box (.slot 0), some 2, none⟩, []⟩,
    ⟨⟨.mv (.const (.bool false)), some 4, none⟩, []⟩])
  (.seq (.seq (.region false [⟨⟨.mv (.const (.int .i64 (.ofNat 0))), some 5, none⟩, []⟩])
  (.block 0 (.loop (.seq (.seq (.region false [⟨⟨.mv (.slot 5), some 7, none⟩, []⟩,
     ⟨⟨.mv (.slot 1), some 8, none⟩, []⟩,
     ⟨⟨.len .slice (.slot 8), some 9, none⟩, []⟩,
     ⟨⟨.bin .lss 3 .num (.slot 7) (.slot 9), some 10, none⟩, []⟩])
   (.cond (.slot 10)
    .skip
    (.exit 0)))
   (.seq (.block 1 (.seq (.region false [⟨⟨.mv (.const (.int .i64 (.ofNat 0))), some 6, none⟩, []⟩])
   (.block 2 (.loop (.seq (.seq (.region false [⟨⟨.mv (.slot 6), some 13, none⟩, []⟩,
      ⟨⟨.mv (.slot 1), some 14, none⟩, []⟩,
      ⟨⟨.mv (.slot 5), some 15, none⟩, []⟩,
      ⟨⟨.iaddr 4 (.slot 14) (.slot 15), some 16, none⟩, []⟩,
      ⟨⟨.faddr 2 (.slot 16), some 17, none⟩, []⟩,
      ⟨⟨.load false 1 (.slot 17), some 18, none⟩, []⟩,
      ⟨⟨.len .slice (.slot 18), some 19, none⟩, []⟩,
      ⟨⟨.bin .lss 3 .num (.slot 13) (.slot 19), some 20, none⟩, []⟩])
    (.cond (.slot 20)
     .skip
     (.exit 2)))
    (.seq (.block 3 (.seq (.region false [⟨⟨.mv (.slot 1), some 23, none⟩, []⟩,
      ⟨⟨.mv (.slot 5), some 24, none⟩, []⟩,
      ⟨⟨.iaddr 4 (.slot 23) (.slot 24), some 25, none⟩, []⟩,
      ⟨⟨.faddr 2 (.slot 25), some 26, none⟩, []⟩,
      ⟨⟨.load false 1 (.slot 26), some 27, none⟩, []⟩,
      ⟨⟨.mv (.slot 6), some 28, none⟩, []⟩,
      ⟨⟨.iaddr 1 (.slot 27) (.slot 28), some 29, none⟩, []⟩,
      ⟨⟨.load false 1 (.slot 29), some 30, none⟩, []⟩,
      ⟨⟨.call (.const (.func 39 [] [])) [(.slot 30)], some 31, none⟩, []⟩,
      ⟨⟨.bin .gtr 3 .num (.slot 31) (.const (.int .i64 (.ofNat 10))), some 32, none⟩, []⟩])
    (.cond (.slot 32)
     (.seq (.region false [⟨⟨.mv (.const (.bool false)), some 4, none⟩, []⟩])
     .ret)
     .skip)))
    (.region false [⟨⟨.mv (.slot 6), some 21, none⟩, []⟩,
      ⟨⟨.bin .add 3 .num (.slot 21) (.const (.int .i64 (.ofNat 1))), some 22, none⟩, []⟩,
      ⟨⟨.mv (.slot 22), some 6, none⟩, []⟩])))))))
   (.region false [⟨⟨.mv (.slot 5), some 11, none⟩, []⟩,
     ⟨⟨.bin .add 3 .num (.slot 11) (.const (.int .i64 (.ofNat 1))), some 12, none⟩, []⟩,
     ⟨⟨.mv (.slot 12), some 5, none⟩, []⟩]))))))
  (.seq (.region false [⟨⟨.faddr 0 (.slot 2), some 33, none⟩, []⟩,
    ⟨⟨.load false 1 (.slot 33), some 34, none⟩, []⟩,
    ⟨⟨.bin .leq 3 .num (.slot 34) (.const (.int .i64 (.ofNat 8))), some 35, none⟩, []⟩,
    ⟨⟨.mv (.slot 35), some 4, none⟩, []⟩])
  .ret))),
  [.tmp 4]⟩
theorem xf24_ok : compFunc Try.prog Try.f24 = some xf24 := by kernel_rfl
/-- threshing/threshingref03.Find -/
def xf25 : XFunc := ⟨(.seq (.region false [⟨⟨.box (.slot 0), some 1, none⟩, []⟩,
    ⟨⟨.mv (.const .nils), some 2, none⟩, []⟩,
    ⟨⟨.mv (.const (.bool false)), some 3, none⟩, []⟩,
    ⟨⟨.mv (.const (.int .i64 (.ofNat 0))), some 4, none⟩, []⟩])
  (.seq (.region false [⟨⟨.load true 2 (.slot 1), some 8, none⟩, []⟩,
    ⟨⟨.call (.const (.func 43 [] [])) [(.slot 8)], some 9, none⟩, []⟩,
    ⟨⟨.mv (.slot 9), some 5, none⟩, []⟩])
  (.seq (.seq (.region false [⟨⟨.mv (.slot 5), some 10, none⟩, []⟩,
    ⟨⟨.bin .neq 28 .num (.slot 10) (.const (.int .i64 (.ofNat 0))), some 11, none⟩, []⟩])
  (.cond (.slot 11)
   (.seq (.region false [⟨⟨.mv (.slot 5), some 12, none⟩, []⟩,
     ⟨⟨.mv (.const .nils), some 2, none⟩, []⟩,
     ⟨⟨.mv (.const (.bool false)), some 3, none⟩, []⟩,
     ⟨⟨.mv (.slot 12), some 4, none⟩, []⟩])
   .ret)
   .skip))
  (.seq (.seq (.region false [⟨⟨.mv (.const (.int .i64 (.ofNat 0))), some 6, none⟩, []⟩])
  (.block 0 (.loop (.seq (.seq (.region false [⟨⟨.mv (.slot 6), some 13, none⟩, []⟩,
     ⟨⟨.faddr 0 (.slot 1), some 14, none⟩, []⟩,
     ⟨⟨.load false 1 (.slot 14), some 15, none⟩, []⟩,
     ⟨⟨.bin .shl 3 .num (.const (.int .i64 (.ofNat 1))) (.slot 15), some 16, none⟩, []⟩,
     ⟨⟨.bin .lss 3 .num (.slot 13) (.slot 16), some 17, none⟩, []⟩])
   (.cond (.slot 17)
    .skip
    (.exit 0)))
   (.seq (.block 1 (.seq (.region false [⟨⟨.faddr 0 (.slot 1), some 20, none⟩, []⟩,
     ⟨⟨.load false 1 (.slot 20), some 21, none⟩, []⟩,
     ⟨⟨.mv (.slot 6), some 22, none⟩, []⟩,
     ⟨⟨.call (.const (.func 16 [] [])) [(.slot 21), (.slot 22)], some 23, none⟩, []⟩,
     ⟨⟨.mv (.slot 23), some 7, none⟩, []⟩])
   (.seq (.region false [⟨⟨.load true 2 (.slot 1), some 24, none⟩, []⟩,
     ⟨⟨.mv (.slot 7), some 25, none⟩, []⟩,
     ⟨⟨.call (.const (.func 17 [] [])) [(.slot 24), (.slot 25)], some 26, none⟩, []⟩])
   (.cond (.slot 26)
    (.seq (.region false [⟨⟨.mv (.slot 7), some 27, none⟩, []⟩,
      ⟨⟨.mv (.slot 27), some 2, none⟩, []⟩,
      ⟨⟨.mv (.const (.bool true)), some 3, none⟩, []⟩,
      ⟨⟨.mv (.const (.int .i64 (.ofNat 0))), some 4, none⟩, []⟩])
    .ret)
    .skip))))
   (.region false [⟨⟨.mv (.slot 6), some 18, none⟩, []⟩,
     ⟨⟨.bin .add 3 .num (.slot 18) (.const (.int .i64 (.ofNat 1))), some 19, none⟩, []⟩,
     ⟨⟨.mv (.slot 19), some 6, none⟩, []⟩]))))))
  (.seq (.region false [⟨⟨.mv (.const .nils), some 2, none⟩, []⟩,
    ⟨⟨.mv (.const (.bool false)), some 3, none⟩, []⟩,
    ⟨⟨.mv (.const (.int .i64 (.ofNat 0))), some 4, none⟩, []⟩])
  .ret))))),
  [.tmp 2, .tmp 3, .tmp 4]⟩
theorem xf25_ok : compFunc Try.prog Try.f25 = some xf25 := by kernel_rfl
/-- threshing/threshinglaw06.stands -/
def xf26 : XFunc := ⟨(.seq (.region false [⟨⟨.alloc [(.int .i64 (.ofNat 0)), .nils], some 2, none⟩, []⟩])
  (.seq (.region false [⟨⟨.build [(.int .i64 (.ofNat 0)), .nils] [(0, 1, (.const (.int .i64 (.ofNat 10))))], some 8, none⟩, []⟩,
    ⟨⟨.alloc [(.int .i64 (.ofNat 0)), .nils], some 3, none⟩, []⟩,
    ⟨⟨.store 2 (.slot 3) (.slot 8), none, none⟩, []⟩])
  (.seq (.region false [⟨⟨.mv (.slot 0), some 9, none⟩, []⟩,
    ⟨⟨.call (.const (.func 22 [] [])) [(.slot 9)], some 10, none⟩, []⟩,
    ⟨⟨.mv (.slot 10), some 4, none⟩, []⟩])
  (.seq (.seq (.region false [⟨⟨.mv (.const (.int .i64 (.ofNat 0))), some 5, none⟩, []⟩])
  (.block 0 (.loop (.seq (.seq (.region false [⟨⟨.mv (.slot 5), some 11, none⟩, []⟩,
     ⟨⟨.mv (.slot 4), some 12, none⟩, []⟩,
     ⟨⟨.len .slice (.slot 12), some 13, none⟩, []⟩,
     ⟨⟨.bin .lss 3 .num (.slot 11) (.slot 13), some 14, none⟩, []⟩])
   (.cond (.slot 14)
    .skip
    (.exit 0)))
   (.seq (.block 1 (.seq (.region false [⟨⟨.mv (.slot 0), some 18, none⟩, []⟩,
     ⟨⟨.mv (.slot 4), some 19, none⟩, []⟩,
     ⟨⟨.mv (.slot 5), some 20, none⟩, []⟩,
     ⟨⟨.iaddr 1 (.slot 19) (.slot 20), some 21, none⟩, []⟩,
     ⟨⟨.load false 1 (.slot 21), some 22, none⟩, []⟩,
     ⟨⟨.call (.const (.func 28 [] [])) [(.slot 18), (.slot 22)], some 23, none⟩, []⟩,
     ⟨⟨.mv (.slot 23), some 17, none⟩, []⟩,
     ⟨⟨.extract (.slot 17) 0, some 24, none⟩, []⟩,
     ⟨⟨.extract (.slot 17) 1, some 25, none⟩, []⟩,
     ⟨⟨.mv (.slot 24), some 6, none⟩, []⟩,
     ⟨⟨.mv (.slot 25), some 7, none⟩, []⟩])
   (.region false [⟨⟨.faddr 1 (.slot 3), some 26, none⟩, []⟩,
     ⟨⟨.load false 1 (.slot 26), some 27, none⟩, []⟩,
     ⟨⟨.mv (.slot 6), some 28, none⟩, []⟩,
     ⟨⟨.bslice 1 [.nils] [(0, 1, (.slot 28))] 1, some 29, none⟩, []⟩,
     ⟨⟨.append 1 24 (.slot 27) (.slot 29), some 30, none⟩, []⟩,
     ⟨⟨.faddr 1 (.slot 3), some 31, none⟩, []⟩,
     ⟨⟨.store 1 (.slot 31) (.slot 30), none, none⟩, []⟩])))
   (.region false [⟨⟨.mv (.slot 5), some 15, none⟩, []⟩,
     ⟨⟨.bin .add 3 .num (.slot 15) (.const (.int .i64 (.ofNat 1))), some 16, none⟩, []⟩,
     ⟨⟨.mv (.slot 16), some 5, none⟩, []⟩]))))))
  (.seq (.region false [⟨⟨.load true 2 (.slot 3), some 32, none⟩, []⟩,
    ⟨⟨.store 2 (.slot 2) (.slot 32), none, none⟩, []⟩])
  .ret))))),
  [.cell 2 true 2]⟩
theorem xf26_ok : compFunc Try.prog Try.f26 = some xf26 := by kernel_rfl
/-- threshing/threshinglaw06.four -/
def xf27 : XFunc := ⟨(.seq (.region false [⟨⟨.alloc [(.int .i64 (.ofNat 0)), .nils], some 0, none⟩, []⟩])
  (.seq (.region false [⟨⟨.bslice 1 [(.int .i32 (.ofNat 0)), (.int .i32 (.ofNat 0))] [(0, 1, (.const (.int .i32 (.ofNat 1)))), (1, 1, (.const (.int .i32 (.ofNat 2))))] 2, some 1, none⟩, []⟩,
    ⟨⟨.bslice 1 [(.int .i32 (.ofNat 0)), (.int .i32 (.ofNat 0))] [(0, 1, (.const (.int .i32 (.ofNat 1)))), (1, 1, (.const (.int .i32 (.negSucc 1))))] 2, some 2, none⟩, []⟩,
    ⟨⟨.bslice 1 [(.int .i32 (.ofNat 0)), (.int .i32 (.ofNat 0))] [(0, 1, (.const (.int .i32 (.negSucc 0)))), (1, 1, (.const (.int .i32 (.ofNat 2))))] 2, some 3, none⟩, []⟩,
    ⟨⟨.bslice 1 [(.int .i32 (.ofNat 0)), (.int .i32 (.ofNat 0))] [(0, 1, (.const (.int .i32 (.negSucc 0)))), (1, 1, (.const (.int .i32 (.negSucc 1))))] 2, some 4, none⟩, []⟩,
    ⟨⟨.bslice 1 [.nils, .nils, .nils, .nils] [(0, 1, (.slot 1)), (1, 1, (.slot 2)), (2, 1, (.slot 3)), (3, 1, (.slot 4))] 4, some 5, none⟩, []⟩,
    ⟨⟨.build [(.int .i64 (.ofNat 0)), .nils] [(0, 1, (.const (.int .i64 (.ofNat 2)))), (1, 1, (.slot 5))], some 6, none⟩, []⟩,
    ⟨⟨.store 2 (.slot 0) (.slot 6), none, none⟩, []⟩])
  .ret)),
  [.cell 0 true 2]⟩
theorem xf27_ok : compFunc Try.prog Try.f27 = some xf27 := by kernel_rfl
/-- (*threshing/check.Checker).Get -/
def xf28 : XFunc := ⟨(.seq (.region false [⟨⟨.mv (.const .nils), some 4, none⟩, []⟩,
    ⟨⟨.mv (.const (.bool false)), some 5, none⟩, []⟩])
  (.seq (.seq (.region false [⟨⟨.mv (.slot 0), some 6, none⟩, []⟩,
    ⟨⟨.bin .eql 38 .ptr (.slot 6) (.const .nilp), some 7, none⟩, []⟩,
    ⟨⟨.mv (.slot 7), some 8, none⟩, []⟩,
    ⟨⟨.mv (.slot 0), some 9, some (8, false)⟩, []⟩,
    ⟨⟨.nilCheck (.slot 9), some 10, some (8, false)⟩, []⟩,
    ⟨⟨.faddr 0 (.slot 10), some 11, some (8, false)⟩, []⟩,
    ⟨⟨.load false 1 (.slot 11), some 12, some (8, false)⟩, []⟩,
    ⟨⟨.mv (.slot 1), some 13, some (8, false)⟩, []⟩,
    ⟨⟨.lookup .i64 .nilp (.slot 12) (.slot 13) false, some 14, some (8, false)⟩, []⟩,
    ⟨⟨.bin .eql 84 .ptr (.slot 14) (.const .nilp), some 15, some (8, false)⟩, []⟩,
    ⟨⟨.pick (.slot 8) (.const (.bool true)) (.slot 15), some 16, none⟩, []⟩])
  (.cond (.slot 16)
   (.seq (.region false [⟨⟨.mv (.const .nils), some 4, none⟩, []⟩,
     ⟨⟨.mv (.const (.bool false)), some 5, none⟩, []⟩])
   .ret)
   .skip))
  (.seq (.region false [⟨⟨.mv (.slot 0), some 17, none⟩, []⟩,
    ⟨⟨.nilCheck (.slot 17), some 18, none⟩, []⟩,
    ⟨⟨.faddr 0 (.slot 18), some 19, none⟩, []⟩,
    ⟨⟨.load false 1 (.slot 19), some 20, none⟩, []⟩,
    ⟨⟨.mv (.slot 1), some 21, none⟩, []⟩,
    ⟨⟨.lookup .i64 .nilp (.slot 20) (.slot 21) false, some 22, none⟩, []⟩,
    ⟨⟨.nilCheck (.slot 22), some 23, none⟩, []⟩,
    ⟨⟨.faddr 0 (.slot 23), some 24, none⟩, []⟩,
    ⟨⟨.load false 1 (.slot 24), some 25, none⟩, []⟩,
    ⟨⟨.call (.const (.func 44 [] [])) [(.slot 25)], some 26, none⟩, []⟩,
    ⟨⟨.mv (.slot 26), some 4, none⟩, []⟩,
    ⟨⟨.mv (.const (.bool true)), some 5, none⟩, []⟩])
  .ret))),
  [.tmp 4, .tmp 5]⟩
theorem xf28_ok : compFunc Try.prog Try.f28 = some xf28 := by kernel_rfl
/-- threshing/threshinglaw06.row -/
def xf29 : XFunc := ⟨(.seq (.region false [⟨⟨.mv (.const (.bool false)), some 4, none⟩, []⟩])
  (.seq (.seq (.region false [⟨⟨.mv (.slot 0), some 6, none⟩, []⟩,
    ⟨⟨.len .slice (.slot 6), some 7, none⟩, []⟩,
    ⟨⟨.mv (.slot 1), some 8, none⟩, []⟩,
    ⟨⟨.len .slice (.slot 8), some 9, none⟩, []⟩,
    ⟨⟨.bin .neq 3 .num (.slot 7) (.slot 9), some 10, none⟩, []⟩])
  (.cond (.slot 10)
   (.seq (.region false [⟨⟨.mv (.const (.bool false)), some 4, none⟩, []⟩])
   .ret)
   .skip))
  (.seq (.seq (.region false [⟨⟨.mv (.const (.int .i64 (.ofNat 0))), some 5, none⟩, []⟩])
  (.block 0 (.loop (.seq (.seq (.region false [⟨⟨.mv (.slot 5), some 11, none⟩, []⟩,
     ⟨⟨.mv (.slot 0), some 12, none⟩, []⟩,
     ⟨⟨.len .slice (.slot 12), some 13, none⟩, []⟩,
     ⟨⟨.bin .lss 3 .num (.slot 11) (.slot 13), some 14, none⟩, []⟩])
   (.cond (.slot 14)
    .skip
    (.exit 0)))
   (.seq (.block 1 (.seq (.region true [⟨⟨.mv (.slot 0), some 17, none⟩, []⟩,
     ⟨⟨.mv (.slot 5), some 18, none⟩, []⟩,
     ⟨⟨.iaddr 1 (.slot 17) (.slot 18), some 19, none⟩, []⟩,
     ⟨⟨.load false 1 (.slot 19), some 20, none⟩, []⟩,
     ⟨⟨.mv (.slot 1), some 21, none⟩, []⟩,
     ⟨⟨.mv (.slot 5), some 22, none⟩, []⟩,
     ⟨⟨.iaddr 1 (.slot 21) (.slot 22), some 23, none⟩, []⟩,
     ⟨⟨.load false 1 (.slot 23), some 24, none⟩, []⟩,
     ⟨⟨.bin .neq 55 .num (.slot 20) (.slot 24), some 25, none⟩, []⟩])
   (.cond (.slot 25)
    (.seq (.region false [⟨⟨.mv (.const (.bool false)), some 4, none⟩, []⟩])
    .ret)
    .skip)))
   (.region false [⟨⟨.mv (.slot 5), some 15, none⟩, []⟩,
     ⟨⟨.bin .add 3 .num (.slot 15) (.const (.int .i64 (.ofNat 1))), some 16, none⟩, []⟩,
     ⟨⟨.mv (.slot 16), some 5, none⟩, []⟩]))))))
  (.seq (.region false [⟨⟨.mv (.const (.bool true)), some 4, none⟩, []⟩])
  .ret)))),
  [.tmp 4]⟩
theorem xf29_ok : compFunc Try.prog Try.f29 = some xf29 := by kernel_rfl
/-- threshing/threshingref04.Size -/
def xf30 : XFunc := ⟨(.seq (.region false [⟨⟨.mv (.const (.int .i64 (.ofNat 0))), some 4, none⟩, []⟩])
  (.seq (.region false [⟨⟨.mv (.const (.int .i64 (.ofNat 0))), some 5, none⟩, []⟩])
  (.seq (.seq (.region false [⟨⟨.mv (.const (.int .i64 (.ofNat 0))), some 6, none⟩, []⟩])
  (.block 0 (.loop (.seq (.seq (.region false [⟨⟨.mv (.slot 6), some 7, none⟩, []⟩,
     ⟨⟨.mv (.slot 0), some 8, none⟩, []⟩,
     ⟨⟨.len .slice (.slot 8), some 9, none⟩, []⟩,
     ⟨⟨.bin .lss 3 .num (.slot 7) (.slot 9), some 10, none⟩, []⟩,
     ⟨⟨.mv (.slot 10), some 11, none⟩, []⟩,
     ⟨⟨.mv (.slot 5), some 12, some (11, true)⟩, []⟩,
     ⟨⟨.mv (.slot 1), some 13, some (11, true)⟩, []⟩,
     ⟨⟨.bin .leq 3 .num (.slot 12) (.slot 13), some 14, some (11, true)⟩, []⟩,
     ⟨⟨.pick (.slot 11) (.slot 14) (.const (.bool false)), some 15, none⟩, []⟩])
   (.cond (.slot 15)
    .skip
    (.exit 0)))
   (.seq (.block 1 (.region true [⟨⟨.mv (.slot 5), some 18, none⟩, []⟩,
     ⟨⟨.bin .add 3 .num (.slot 18) (.const (.int .i64 (.ofNat 1))), some 19, none⟩, []⟩,
     ⟨⟨.mv (.slot 0), some 20, none⟩, []⟩,
     ⟨⟨.mv (.slot 6), some 21, none⟩, []⟩,
     ⟨⟨.iaddr 4 (.slot 20) (.slot 21), some 22, none⟩, []⟩,
     ⟨⟨.faddr 2 (.slot 22), some 23, none⟩, []⟩,
     ⟨⟨.load false 1 (.slot 23), some 24, none⟩, []⟩,
     ⟨⟨.len .slice (.slot 24), some 25, none⟩, []⟩,
     ⟨⟨.mv (.slot 1), some 26, none⟩, []⟩,
     ⟨⟨.minmax true (.slot 25) (.slot 26), some 27, none⟩, []⟩,
     ⟨⟨.bin .add 3 .num (.slot 19) (.slot 27), some 28, none⟩, []⟩,
     ⟨⟨.mv (.slot 0), some 29, none⟩, []⟩,
     ⟨⟨.mv (.slot 6), some 30, none⟩, []⟩,
     ⟨⟨.iaddr 4 (.slot 29) (.slot 30), some 31, none⟩, []⟩,
     ⟨⟨.faddr 3 (.slot 31), some 32, none⟩, []⟩,
     ⟨⟨.load false 1 (.slot 32), some 33, none⟩, []⟩,
     ⟨⟨.len .slice (.slot 33), some 34, none⟩, []⟩,
     ⟨⟨.mv (.slot 1), some 35, none⟩, []⟩,
     ⟨⟨.minmax true (.slot 34) (.slot 35), some 36, none⟩, []⟩,
     ⟨⟨.bin .add 3 .num (.slot 28) (.slot 36), some 37, none⟩, []⟩,
     ⟨⟨.mv (.slot 37), some 5, none⟩, []⟩]))
   (.region false [⟨⟨.mv (.slot 6), some 16, none⟩, []⟩,
     ⟨⟨.bin .add 3 .num (.slot 16) (.const (.int .i64 (.ofNat 1))), some 17, none⟩, []⟩,
     ⟨⟨.mv (.slot 17), some 6, none⟩, []⟩]))))))
  (.seq (.region false [⟨⟨.mv (.slot 5), some 38, none⟩, []⟩,
    ⟨⟨.mv (.slot 38), some 4, none⟩, []⟩])
  .ret)))),
  [.tmp 4]⟩
theorem xf30_ok : compFunc Try.prog Try.f30 = some xf30 := by kernel_rfl
/-- threshing/threshingref06.New -/
def xf31 : XFunc := ⟨(.seq (.region false [⟨⟨.box (.slot 0), some 1, none⟩, []⟩,
    ⟨⟨.mv (.const .nilp), some 2, none⟩, []⟩,
    ⟨⟨.mv (.const (.int .i64 (.ofNat 0))), some 3, none⟩, []⟩])
  (.seq (.region false [⟨⟨.load true 2 (.slot 1), some 7, none⟩, []⟩,
    ⟨⟨.call (.const (.func 45 [] [])) [(.slot 7)], some 8, none⟩, []⟩,
    ⟨⟨.mv (.slot 8), some 4, none⟩, []⟩])
  (.seq (.seq (.region false [⟨⟨.mv (.slot 4), some 9, none⟩, []⟩,
    ⟨⟨.bin .neq 28 .num (.slot 9) (.const (.int .i64 (.ofNat 0))), some 10, none⟩, []⟩])
  (.cond (.slot 10)
   (.seq (.region false [⟨⟨.mv (.slot 4), some 11, none⟩, []⟩,
     ⟨⟨.mv (.const .nilp), some 2, none⟩, []⟩,
     ⟨⟨.mv (.slot 11), some 3, none⟩, []⟩])
   .ret)
   .skip))
  (.seq (.region false [⟨⟨.build [.nils, (.int .i64 (.ofNat 0)), (.bool false), (.int .i64 (.ofNat 0))] [], some 12, none⟩, []⟩,
    ⟨⟨.box (.slot 12), some 13, none⟩, []⟩,
    ⟨⟨.mv (.slot 13), some 5, none⟩, []⟩])
  (.seq (.seq (.region false [⟨⟨.mv (.const (.int .i64 (.ofNat 0))), some 6, none⟩, []⟩])
  (.block 0 (.loop (.seq (.seq (.region false [⟨⟨.mv (.slot 6), some 14, none⟩, []⟩,
     ⟨⟨.faddr 1 (.slot 1), some 15, none⟩, []⟩,
     ⟨⟨.load false 1 (.slot 15), some 16, none⟩, []⟩,
     ⟨⟨.len .slice (.slot 16), some 17, none⟩, []⟩,
     ⟨⟨.bin .lss 3 .num (.slot 14) (.slot 17), some 18, none⟩, []⟩])
   (.cond (.slot 18)
    .skip
    (.exit 0)))
   (.seq (.block 1 (.region false [⟨⟨.mv (.slot 5), some 21, none⟩, []⟩,
     ⟨⟨.mv (.slot 6), some 22, none⟩, []⟩,
     ⟨⟨.bin .add 3 .num (.slot 22) (.const (.int .i64 (.ofNat 1))), some 23, none⟩, []⟩,
     ⟨⟨.faddr 1 (.slot 1), some 24, none⟩, []⟩,
     ⟨⟨.load false 1 (.slot 24), some 25, none⟩, []⟩,
     ⟨⟨.mv (.slot 6), some 26, none⟩, []⟩,
     ⟨⟨.iaddr 1 (.slot 25) (.slot 26), some 27, none⟩, []⟩,
     ⟨⟨.load false 1 (.slot 27), some 28, none⟩, []⟩,
     ⟨⟨.call (.const (.func 46 [] [])) [(.slot 21), (.slot 23), (.slot 28)], some 29, none⟩, []⟩]))
   (.region false [⟨⟨.mv (.slot 6), some 19, none⟩, []⟩,
     ⟨⟨.bin .add 3 .num (.slot 19) (.const (.int .i64 (.ofNat 1))), some 20, none⟩, []⟩,
     ⟨⟨.mv (.slot 20), some 6, none⟩, []⟩]))))))
  (.seq (.region false [⟨⟨.mv (.slot 5), some 30, none⟩, []⟩,
    ⟨⟨.mv (.slot 30), some 2, none⟩, []⟩,
    ⟨⟨.mv (.const (.int .i64 (.ofNat 0))), some 3, none⟩, []⟩])
  .ret)))))),
  [.tmp 2, .tmp 3]⟩
theorem xf31_ok : compFunc Try.prog Try.f31 = some xf31 := by kernel_rfl
/-- (*threshing/threshingref06.Checker).Step -/
def xf32 : XFunc := ⟨(.seq (.region false [⟨⟨.box (.slot 1), some 3, none⟩, []⟩,
    ⟨⟨.mv (.const (.int .i64 (.ofNat 0))), some 4, none⟩, []⟩])
  (.seq (.seq (.region false [⟨⟨.load true 4 (.slot 3), some 6, none⟩, []⟩,
    ⟨⟨.call (.const (.func 47 [] [])) [(.slot 6)], some 7, none⟩, []⟩,
    ⟨⟨.un .not (.slot 7), some 8, none⟩, []⟩])
  (.cond (.slot 8)
   (.seq (.region false [⟨⟨.mv (.const (.int .i64 (.ofNat 40))), some 4, none⟩, []⟩])
   .ret)
   .skip))
  (.seq (.seq (.region false [⟨⟨.faddr 0 (.slot 3), some 9, none⟩, []⟩,
    ⟨⟨.load false 1 (.slot 9), some 10, none⟩, []⟩,
    ⟨⟨.bin .eql 5 .num (.slot 10) (.const (.int .u8 (.ofNat 2))), some 11, none⟩, []⟩])
  (.cond (.slot 11)
   (.seq (.region false [⟨⟨.mv (.slot 0), some 12, none⟩, []⟩,
     ⟨⟨.faddr 3 (.slot 3), some 13, none⟩, []⟩,
     ⟨⟨.load false 1 (.slot 13), some 14, none⟩, []⟩,
     ⟨⟨.call (.const (.func 48 [] [])) [(.slot 12), (.slot 14)], some 15, none⟩, []⟩,
     ⟨⟨.mv (.slot 15), some 4, none⟩, []⟩])
   .ret)
   .skip))
  (.seq (.seq (.region true [⟨⟨.faddr 1 (.slot 3), some 16, none⟩, []⟩,
    ⟨⟨.load false 1 (.slot 16), some 17, none⟩, []⟩,
    ⟨⟨.mv (.slot 0), some 18, none⟩, []⟩,
    ⟨⟨.nilCheck (.slot 18), some 19, none⟩, []⟩,
    ⟨⟨.faddr 1 (.slot 19), some 20, none⟩, []⟩,
    ⟨⟨.load false 1 (.slot 20), some 21, none⟩, []⟩,
    ⟨⟨.bin .leq 2 .num (.slot 17) (.slot 21), some 22, none⟩, []⟩])
  (.cond (.slot 22)
   (.seq (.region false [⟨⟨.mv (.const (.int .i64 (.ofNat 62))), some 4, none⟩, []⟩])
   .ret)
   .skip))
  (.seq (.region false [⟨⟨.mv (.slot 0), some 23, none⟩, []⟩,
    ⟨⟨.faddr 2 (.slot 3), some 24, none⟩, []⟩,
    ⟨⟨.load false 1 (.slot 24), some 25, none⟩, []⟩,
    ⟨⟨.faddr 3 (.slot 3), some 26, none⟩, []⟩,
    ⟨⟨.load false 1 (.slot 26), some 27, none⟩, []⟩,
    ⟨⟨.call (.const (.func 49 [] [])) [(.slot 23), (.slot 25), (.slot 27)], some 28, none⟩, []⟩,
    ⟨⟨.mv (.slot 28), some 5, none⟩, []⟩])
  (.seq (.seq (.region false [⟨⟨.mv (.slot 5), some 29, none⟩, []⟩,
    ⟨⟨.bin .neq 28 .num (.slot 29) (.const (.int .i64 (.ofNat 0))), some 30, none⟩, []⟩])
  (.cond (.slot 30)
   (.seq (.region false [⟨⟨.mv (.slot 5), some 31, none⟩, []⟩,
     ⟨⟨.mv (.slot 31), some 4, none⟩, []⟩])
   .ret)
   .skip))
  (.seq (.seq (.region true [⟨⟨.mv (.slot 0), some 32, none⟩, []⟩,
    ⟨⟨.nilCheck (.slot 32), some 33, none⟩, []⟩,
    ⟨⟨.faddr 3 (.slot 33), some 34, none⟩, []⟩,
    ⟨⟨.load false 1 (.slot 34), some 35, none⟩, []⟩,
    ⟨⟨.faddr 2 (.slot 3), some 36, none⟩, []⟩,
    ⟨⟨.load false 1 (.slot 36), some 37, none⟩, []⟩,
    ⟨⟨.len .slice (.slot 37), some 38, none⟩, []⟩,
    ⟨⟨.bin .add 3 .num (.slot 35) (.slot 38), some 39, none⟩, []⟩,
    ⟨⟨.bin .gtr 3 .num (.slot 39) (.const (.int .i64 (.ofNat 16777216))), some 40, none⟩, []⟩])
  (.cond (.slot 40)
   (.seq (.region false [⟨⟨.mv (.const (.int .i64 (.ofNat 3))), some 4, none⟩, []⟩])
   .ret)
   .skip))
  (.seq (.region false [⟨⟨.mv (.slot 0), some 41, none⟩, []⟩,
    ⟨⟨.faddr 1 (.slot 3), some 42, none⟩, []⟩,
    ⟨⟨.load false 1 (.slot 42), some 43, none⟩, []⟩,
    ⟨⟨.faddr 2 (.slot 3), some 44, none⟩, []⟩,
    ⟨⟨.load false 1 (.slot 44), some 45, none⟩, []⟩,
    ⟨⟨.call (.const (.func 46 [] [])) [(.slot 41), (.slot 43), (.slot 45)], some 46, none⟩, []⟩])
  (.seq (.region false [⟨⟨.mv (.const (.int .i64 (.ofNat 0))), some 4, none⟩, []⟩])
  .ret))))))))),
  [.tmp 4]⟩
theorem xf32_ok : compFunc Try.prog Try.f32 = some xf32 := by kernel_rfl
/-- threshing/cnf.Right -/
def xf33 : XFunc := ⟨(.seq (.region false [⟨⟨.box (.slot 0), some 1, none⟩, []⟩,
    ⟨⟨.mv (.const (.int .i64 (.ofNat 0))), some 2, none⟩, []⟩])
  (.seq (.block 0 (.seq (.seq (.region false [⟨⟨.faddr 0 (.slot 1), some 9, none⟩, []⟩,
    ⟨⟨.load false 1 (.slot 9), some 10, none⟩, []⟩,
    ⟨⟨.bin .lss 3 .num (.slot 10) (.const (.int .i64 (.ofNat 0))), some 11, none⟩, []⟩,
    ⟨⟨.mv (.slot 11), some 8, none⟩, []⟩])
  (.cond (.slot 8)
   .skip
   (.region false [⟨⟨.faddr 0 (.slot 1), some 12, none⟩, []⟩,
     ⟨⟨.load false 1 (.slot 12), some 13, none⟩, []⟩,
     ⟨⟨.bin .gtr 3 .num (.slot 13) (.const (.int .i64 (.ofNat 1048576))), some 14, none⟩, []⟩,
     ⟨⟨.mv (.slot 14), some 8, none⟩, []⟩])))
  (.cond (.slot 8)
   (.seq (.region false [⟨⟨.mv (.const (.int .i64 (.ofNat 2))), some 2, none⟩, []⟩])
   .ret)
   (.seq (.region false [⟨⟨.faddr 1 (.slot 1), some 16, none⟩, []⟩,
     ⟨⟨.load false 1 (.slot 16), some 17, none⟩, []⟩,
     ⟨⟨.len .slice (.slot 17), some 18, none⟩, []⟩,
     ⟨⟨.bin .gtr 3 .num (.slot 18) (.const (.int .i64 (.ofNat 1048576))), some 19, none⟩, []⟩,
     ⟨⟨.mv (.slot 19), some 15, none⟩, []⟩])
   (.cond (.slot 15)
    (.seq (.region false [⟨⟨.mv (.const (.int .i64 (.ofNat 3))), some 2, none⟩, []⟩])
    .ret)
    .skip)))))
  (.seq (.region false [⟨⟨.mv (.const (.int .i64 (.ofNat 16777216))), some 3, none⟩, []⟩])
  (.seq (.seq (.region false [⟨⟨.faddr 1 (.slot 1), some 20, none⟩, []⟩,
    ⟨⟨.load false 1 (.slot 20), some 21, none⟩, []⟩,
    ⟨⟨.len .slice (.slot 21), some 22, none⟩, []⟩,
    ⟨⟨.mv (.const (.int .i64 (.ofNat 0))), some 23, none⟩, []⟩])
  (.block 1 (.loop (.seq (.region false [⟨⟨.bin .lss 3 .num (.slot 23) (.slot 22), some 24, none⟩, []⟩])
   (.seq (.cond (.slot 24)
    .skip
    (.exit 1))
   (.seq (.block 2 (.seq (.region false [⟨⟨.iaddr 1 (.slot 21) (.slot 23), some 25, none⟩, []⟩,
     ⟨⟨.load false 1 (.slot 25), some 26, none⟩, []⟩,
     ⟨⟨.mv (.slot 26), some 5, none⟩, []⟩])
   (.seq (.region false [⟨⟨.mv (.slot 5), some 27, none⟩, []⟩,
     ⟨⟨.len .slice (.slot 27), some 28, none⟩, []⟩,
     ⟨⟨.mv (.const (.int .i64 (.ofNat 0))), some 29, none⟩, []⟩])
   (.block 3 (.loop (.seq (.region false [⟨⟨.bin .lss 3 .num (.slot 29) (.slot 28), some 30, none⟩, []⟩])
    (.seq (.cond (.slot 30)
     .skip
     (.exit 3))
    (.seq (.block 4 (.seq (.region false [⟨⟨.iaddr 1 (.slot 27) (.slot 29), some 31, none⟩, []⟩,
      ⟨⟨.load false 1 (.slot 31), some 32, none⟩, []⟩,
      ⟨⟨.mv (.slot 32), some 7, none⟩, []⟩])
    (.seq (.seq (.region false [⟨⟨.mv (.slot 3), some 33, none⟩, []⟩,
      ⟨⟨.bin .eql 3 .num (.slot 33) (.const (.int .i64 (.ofNat 0))), some 34, none⟩, []⟩])
    (.cond (.slot 34)
     (.seq (.region false [⟨⟨.mv (.const (.int .i64 (.ofNat 3))), some 2, none⟩, []⟩])
     .ret)
     .skip))
    (.seq (.region false [⟨⟨.mv (.slot 3), some 35, none⟩, []⟩,
      ⟨⟨.bin .sub 3 .num (.slot 35) (.const (.int .i64 (.ofNat 1))), some 36, none⟩, []⟩,
      ⟨⟨.mv (.slot 36), some 3, none⟩, []⟩])
    (.seq (.region true [⟨⟨.mv (.slot 7), some 37, none⟩, []⟩,
      ⟨⟨.bin .eql 55 .num (.slot 37) (.const (.int .i32 (.ofNat 0))), some 38, none⟩, []⟩,
      ⟨⟨.mv (.slot 38), some 39, none⟩, []⟩,
      ⟨⟨.mv (.slot 7), some 40, some (39, false)⟩, []⟩,
      ⟨⟨.faddr 0 (.slot 1), some 42, some (39, false)⟩, []⟩,
      ⟨⟨.load false 1 (.slot 42), some 43, some (39, false)⟩, []⟩,
      ⟨⟨.call (.const (.func 50 [] [])) [(.slot 40)], some 41, some (39, false)⟩, [⟨.load false 1 (.slot 42), some 43, some (39, false)⟩]⟩,
      ⟨⟨.bin .gtr 3 .num (.slot 41) (.slot 43), some 44, some (39, false)⟩, []⟩,
      ⟨⟨.pick (.slot 39) (.const (.bool true)) (.slot 44), some 45, none⟩, []⟩])
    (.cond (.slot 45)
     (.seq (.region false [⟨⟨.mv (.const (.int .i64 (.ofNat 4))), some 2, none⟩, []⟩])
     .ret)
     .skip))))))
    (.region false [⟨⟨.bin .add 3 .num (.slot 29) (.const (.int .i64 (.ofNat 1))), some 46, none⟩, []⟩,
      ⟨⟨.mv (.slot 46), some 29, none⟩, []⟩])))))))))
   (.region false [⟨⟨.bin .add 3 .num (.slot 23) (.const (.int .i64 (.ofNat 1))), some 47, none⟩, []⟩,
     ⟨⟨.mv (.slot 47), some 23, none⟩, []⟩])))))))
  (.seq (.region false [⟨⟨.mv (.const (.int .i64 (.ofNat 0))), some 2, none⟩, []⟩])
  .ret))))),
  [.tmp 2]⟩
theorem xf33_ok : compFunc Try.prog Try.f33 = some xf33 := by kernel_rfl
/-- (*threshing/check.Checker).put -/
def xf34 : XFunc := ⟨(.seq (.region false [⟨⟨.mv (.slot 2), some 9, none⟩, []⟩,
    ⟨⟨.call (.const (.func 51 [] [])) [(.slot 9)], some 10, none⟩, []⟩,
    ⟨⟨.mv (.slot 10), some 8, none⟩, []⟩,
    ⟨⟨.extract (.slot 8) 0, some 11, none⟩, []⟩,
    ⟨⟨.extract (.slot 8) 1, some 12, none⟩, []⟩,
    ⟨⟨.mv (.slot 11), some 6, none⟩, []⟩,
    ⟨⟨.mv (.slot 12), some 7, none⟩, []⟩])
  (.seq (.region true [⟨⟨.mv (.slot 0), some 13, none⟩, []⟩,
    ⟨⟨.nilCheck (.slot 13), some 14, none⟩, []⟩,
    ⟨⟨.faddr 0 (.slot 14), some 15, none⟩, []⟩,
    ⟨⟨.load false 1 (.slot 15), some 16, none⟩, []⟩,
    ⟨⟨.mv (.slot 1), some 17, none⟩, []⟩,
    ⟨⟨.mv (.slot 2), some 18, none⟩, []⟩,
    ⟨⟨.mv (.slot 6), some 20, none⟩, []⟩,
    ⟨⟨.mv (.slot 7), some 21, none⟩, []⟩,
    ⟨⟨.call (.const (.func 44 [] [])) [(.slot 18)], some 19, none⟩, [⟨.load false 1 (.slot 15), some 16, none⟩]⟩,
    ⟨⟨.build [.nils, .nils, (.bool false)] [(0, 1, (.slot 19)), (1, 1, (.slot 20)), (2, 1, (.slot 21))], some 22, none⟩, []⟩,
    ⟨⟨.box (.slot 22), some 23, none⟩, [⟨.load false 1 (.slot 15), some 16, none⟩]⟩,
    ⟨⟨.mapup .i64 (.slot 16) (.slot 17) (.slot 23), none, none⟩, []⟩])
  (.seq (.region false [⟨⟨.mv (.slot 0), some 24, none⟩, []⟩,
    ⟨⟨.mv (.slot 1), some 25, none⟩, []⟩,
    ⟨⟨.nilCheck (.slot 24), some 26, none⟩, []⟩,
    ⟨⟨.faddr 1 (.slot 26), some 27, none⟩, []⟩,
    ⟨⟨.store 1 (.slot 27) (.slot 25), none, none⟩, []⟩])
  (.seq (.region false [⟨⟨.mv (.slot 0), some 28, none⟩, []⟩,
    ⟨⟨.nilCheck (.slot 28), some 29, none⟩, []⟩,
    ⟨⟨.faddr 2 (.slot 29), some 30, none⟩, []⟩,
    ⟨⟨.load false 1 (.slot 30), some 31, none⟩, []⟩,
    ⟨⟨.mv (.slot 2), some 32, none⟩, []⟩,
    ⟨⟨.len .slice (.slot 32), some 33, none⟩, []⟩,
    ⟨⟨.bin .add 3 .num (.slot 31) (.slot 33), some 34, none⟩, []⟩,
    ⟨⟨.nilCheck (.slot 28), some 35, none⟩, []⟩,
    ⟨⟨.faddr 2 (.slot 35), some 36, none⟩, []⟩,
    ⟨⟨.store 1 (.slot 36) (.slot 34), none, none⟩, []⟩])
  (.region false [⟨⟨.mv (.slot 0), some 37, none⟩, []⟩,
    ⟨⟨.mv (.slot 0), some 38, none⟩, []⟩,
    ⟨⟨.nilCheck (.slot 38), some 39, none⟩, []⟩,
    ⟨⟨.faddr 3 (.slot 39), some 40, none⟩, []⟩,
    ⟨⟨.load false 1 (.slot 40), some 41, none⟩, []⟩,
    ⟨⟨.mv (.slot 41), some 42, none⟩, []⟩,
    ⟨⟨.mv (.slot 2), some 43, some (42, false)⟩, []⟩,
    ⟨⟨.len .slice (.slot 43), some 44, some (42, false)⟩, []⟩,
    ⟨⟨.bin .eql 3 .num (.slot 44) (.const (.int .i64 (.ofNat 0))), some 45, some (42, false)⟩, []⟩,
    ⟨⟨.pick (.slot 42) (.const (.bool true)) (.slot 45), some 46, none⟩, []⟩,
    ⟨⟨.nilCheck (.slot 37), some 47, none⟩, []⟩,
    ⟨⟨.faddr 3 (.slot 47), some 48, none⟩, []⟩,
    ⟨⟨.store 1 (.slot 48) (.slot 46), none, none⟩, []⟩]))))),
  []⟩
theorem xf34_ok : compFunc Try.prog Try.f34 = some xf34 := by kernel_rfl
/-- threshing/check.may -/
def xf35 : XFunc := ⟨(.seq (.region false [⟨⟨.box (.slot 0), some 1, none⟩, []⟩,
    ⟨⟨.mv (.const (.bool false)), some 2, none⟩, []⟩])
  (.seq (.seq (.region false [⟨⟨.faddr 2 (.slot 1), some 7, none⟩, []⟩,
    ⟨⟨.load false 1 (.slot 7), some 8, none⟩, []⟩,
    ⟨⟨.len .slice (.slot 8), some 9, none⟩, []⟩,
    ⟨⟨.mv (.const (.int .i64 (.ofNat 0))), some 10, none⟩, []⟩])
  (.block 0 (.loop (.seq (.region false [⟨⟨.bin .lss 3 .num (.slot 10) (.slot 9), some 11, none⟩, []⟩])
   (.seq (.cond (.slot 11)
    .skip
    (.exit 0))
   (.seq (.block 1 (.seq (.region false [⟨⟨.iaddr 1 (.slot 8) (.slot 10), some 12, none⟩, []⟩,
     ⟨⟨.load false 1 (.slot 12), some 13, none⟩, []⟩,
     ⟨⟨.mv (.slot 13), some 4, none⟩, []⟩])
   (.seq (.region false [⟨⟨.mv (.slot 4), some 14, none⟩, []⟩,
     ⟨⟨.bin .eql 55 .num (.slot 14) (.const (.int .i32 (.ofNat 0))), some 15, none⟩, []⟩,
     ⟨⟨.mv (.slot 15), some 16, none⟩, []⟩,
     ⟨⟨.mv (.slot 4), some 17, some (16, false)⟩, []⟩,
     ⟨⟨.bin .lss 55 .num (.slot 17) (.const (.int .i32 (.negSucc 1048575))), some 18, some (16, false)⟩, []⟩,
     ⟨⟨.pick (.slot 16) (.const (.bool true)) (.slot 18), some 19, none⟩, []⟩,
     ⟨⟨.mv (.slot 19), some 20, none⟩, []⟩,
     ⟨⟨.mv (.slot 4), some 21, some (20, false)⟩, []⟩,
     ⟨⟨.bin .gtr 55 .num (.slot 21) (.const (.int .i32 (.ofNat 1048576))), some 22, some (20, false)⟩, []⟩,
     ⟨⟨.pick (.slot 20) (.const (.bool true)) (.slot 22), some 23, none⟩, []⟩])
   (.cond (.slot 23)
    (.seq (.region false [⟨⟨.mv (.const (.bool false)), some 2, none⟩, []⟩])
    .ret)
    .skip))))
   (.region false [⟨⟨.bin .add 3 .num (.slot 10) (.const (.int .i64 (.ofNat 1))), some 24, none⟩, []⟩,
     ⟨⟨.mv (.slot 24), some 10, none⟩, []⟩])))))))
  (.seq (.seq (.region false [⟨⟨.faddr 3 (.slot 1), some 25, none⟩, []⟩,
    ⟨⟨.load false 1 (.slot 25), some 26, none⟩, []⟩,
    ⟨⟨.len .slice (.slot 26), some 27, none⟩, []⟩,
    ⟨⟨.mv (.const (.int .i64 (.ofNat 0))), some 28, none⟩, []⟩])
  (.block 2 (.loop (.seq (.region false [⟨⟨.bin .lss 3 .num (.slot 28) (.slot 27), some 29, none⟩, []⟩])
   (.seq (.cond (.slot 29)
    .skip
    (.exit 2))
   (.seq (.block 3 (.seq (.region false [⟨⟨.iaddr 1 (.slot 26) (.slot 28), some 30, none⟩, []⟩,
     ⟨⟨.load false 1 (.slot 30), some 31, none⟩, []⟩,
     ⟨⟨.mv (.slot 31), some 6, none⟩, []⟩])
   (.seq (.region false [⟨⟨.mv (.slot 6), some 32, none⟩, []⟩,
     ⟨⟨.bin .eql 2 .num (.slot 32) (.const (.int .i64 (.ofNat 0))), some 33, none⟩, []⟩,
     ⟨⟨.mv (.slot 33), some 34, none⟩, []⟩,
     ⟨⟨.mv (.slot 6), some 35, some (34, false)⟩, []⟩,
     ⟨⟨.bin .lss 2 .num (.slot 35) (.const (.int .i64 (.negSucc 4611686018427387902))), some 36, some (34, false)⟩, []⟩,
     ⟨⟨.pick (.slot 34) (.const (.bool true)) (.slot 36), some 37, none⟩, []⟩,
     ⟨⟨.mv (.slot 37), some 38, none⟩, []⟩,
     ⟨⟨.mv (.slot 6), some 39, some (38, false)⟩, []⟩,
     ⟨⟨.bin .gtr 2 .num (.slot 39) (.const (.int .i64 (.ofNat 4611686018427387903))), some 40, some (38, false)⟩, []⟩,
     ⟨⟨.pick (.slot 38) (.const (.bool true)) (.slot 40), some 41, none⟩, []⟩,
     ⟨⟨.mv (.slot 41), some 42, none⟩, []⟩,
     ⟨⟨.mv (.slot 6), some 43, some (42, false)⟩, []⟩,
     ⟨⟨.bin .lss 2 .num (.slot 43) (.const (.int .i64 (.ofNat 0))), some 44, some (42, false)⟩, []⟩,
     ⟨⟨.mv (.slot 44), some 45, some (42, false)⟩, []⟩,
     ⟨⟨.faddr 0 (.slot 1), some 46, some (45, true)⟩, []⟩,
     ⟨⟨.load false 1 (.slot 46), some 47, some (45, true)⟩, []⟩,
     ⟨⟨.bin .eql 5 .num (.slot 47) (.const (.int .u8 (.ofNat 2))), some 48, some (45, true)⟩, []⟩,
     ⟨⟨.pick (.slot 45) (.slot 48) (.const (.bool false)), some 49, some (42, false)⟩, []⟩,
     ⟨⟨.pick (.slot 42) (.const (.bool true)) (.slot 49), some 50, none⟩, []⟩])
   (.cond (.slot 50)
    (.seq (.region false [⟨⟨.mv (.const (.bool false)), some 2, none⟩, []⟩])
    .ret)
    .skip))))
   (.region false [⟨⟨.bin .add 3 .num (.slot 28) (.const (.int .i64 (.ofNat 1))), some 51, none⟩, []⟩,
     ⟨⟨.mv (.slot 51), some 28, none⟩, []⟩])))))))
  (.seq (.seq (.region false [⟨⟨.faddr 0 (.slot 1), some 52, none⟩, []⟩,
    ⟨⟨.load false 1 (.slot 52), some 53, none⟩, []⟩])
  (.block 4 (.seq (.region false [⟨⟨.bin .eql 5 .num (.slot 53) (.const (.int .u8 (.ofNat 1))), some 55, none⟩, []⟩,
    ⟨⟨.mv (.slot 55), some 54, none⟩, []⟩])
  (.cond (.slot 54)
   (.seq (.region false [⟨⟨.faddr 1 (.slot 1), some 56, none⟩, []⟩,
     ⟨⟨.load false 1 (.slot 56), some 57, none⟩, []⟩,
     ⟨⟨.bin .geq 2 .num (.slot 57) (.const (.int .i64 (.ofNat 1))), some 58, none⟩, []⟩,
     ⟨⟨.mv (.slot 58), some 59, none⟩, []⟩,
     ⟨⟨.faddr 1 (.slot 1), some 60, some (59, true)⟩, []⟩,
     ⟨⟨.load false 1 (.slot 60), some 61, some (59, true)⟩, []⟩,
     ⟨⟨.bin .leq 2 .num (.slot 61) (.const (.int .i64 (.ofNat 4611686018427387903))), some 62, some (59, true)⟩, []⟩,
     ⟨⟨.pick (.slot 59) (.slot 62) (.const (.bool false)), some 63, none⟩, []⟩,
     ⟨⟨.mv (.slot 63), some 2, none⟩, []⟩])
   .ret)
   (.seq (.region false [⟨⟨.bin .eql 5 .num (.slot 53) (.const (.int .u8 (.ofNat 2))), some 65, none⟩, []⟩,
     ⟨⟨.mv (.slot 65), some 64, none⟩, []⟩])
   (.cond (.slot 64)
    (.seq (.region false [⟨⟨.faddr 1 (.slot 1), some 66, none⟩, []⟩,
      ⟨⟨.load false 1 (.slot 66), some 67, none⟩, []⟩,
      ⟨⟨.bin .geq 2 .num (.slot 67) (.const (.int .i64 (.ofNat 0))), some 68, none⟩, []⟩,
      ⟨⟨.mv (.slot 68), some 69, none⟩, []⟩,
      ⟨⟨.faddr 1 (.slot 1), some 70, some (69, true)⟩, []⟩,
      ⟨⟨.load false 1 (.slot 70), some 71, some (69, true)⟩, []⟩,
      ⟨⟨.bin .leq 2 .num (.slot 71) (.const (.int .i64 (.ofNat 4611686018427387903))), some 72, some (69, true)⟩, []⟩,
      ⟨⟨.pick (.slot 69) (.slot 72) (.const (.bool false)), some 73, none⟩, []⟩,
      ⟨⟨.mv (.slot 73), some 74, none⟩, []⟩,
      ⟨⟨.faddr 2 (.slot 1), some 75, some (74, true)⟩, []⟩,
      ⟨⟨.load false 1 (.slot 75), some 76, some (74, true)⟩, []⟩,
      ⟨⟨.len .slice (.slot 76), some 77, some (74, true)⟩, []⟩,
      ⟨⟨.bin .eql 3 .num (.slot 77) (.const (.int .i64 (.ofNat 0))), some 78, some (74, true)⟩, []⟩,
      ⟨⟨.pick (.slot 74) (.slot 78) (.const (.bool false)), some 79, none⟩, []⟩,
      ⟨⟨.mv (.slot 79), some 2, none⟩, []⟩])
    .ret)
    .skip))))))
  (.seq (.region false [⟨⟨.mv (.const (.bool false)), some 2, none⟩, []⟩])
  .ret))))),
  [.tmp 2]⟩
theorem xf35_ok : compFunc Try.prog Try.f35 = some xf35 := by kernel_rfl
/-- (*threshing/check.Checker).drop -/
def xf36 : XFunc := ⟨(.seq (.region false [⟨⟨.mv (.const (.int .i64 (.ofNat 0))), some 4, none⟩, []⟩])
  (.seq (.region false [⟨⟨.mkmap .i64, some 9, none⟩, []⟩,
    ⟨⟨.mv (.slot 9), some 5, none⟩, []⟩])
  (.seq (.seq (.region false [⟨⟨.mv (.slot 1), some 10, none⟩, []⟩,
    ⟨⟨.len .slice (.slot 10), some 11, none⟩, []⟩,
    ⟨⟨.mv (.const (.int .i64 (.ofNat 0))), some 12, none⟩, []⟩])
  (.block 0 (.loop (.seq (.region false [⟨⟨.bin .lss 3 .num (.slot 12) (.slot 11), some 13, none⟩, []⟩])
   (.seq (.cond (.slot 13)
    .skip
    (.exit 0))
   (.seq (.block 1 (.seq (.region false [⟨⟨.iaddr 1 (.slot 10) (.slot 12), some 14, none⟩, []⟩,
     ⟨⟨.load false 1 (.slot 14), some 15, none⟩, []⟩,
     ⟨⟨.mv (.slot 15), some 7, none⟩, []⟩])
   (.seq (.seq (.region false [⟨⟨.mv (.slot 0), some 16, none⟩, []⟩,
     ⟨⟨.nilCheck (.slot 16), some 17, none⟩, []⟩,
     ⟨⟨.faddr 0 (.slot 17), some 18, none⟩, []⟩,
     ⟨⟨.load false 1 (.slot 18), some 19, none⟩, []⟩,
     ⟨⟨.mv (.slot 7), some 20, none⟩, []⟩,
     ⟨⟨.lookup .i64 .nilp (.slot 19) (.slot 20) false, some 21, none⟩, []⟩,
     ⟨⟨.bin .eql 84 .ptr (.slot 21) (.const .nilp), some 22, none⟩, []⟩,
     ⟨⟨.mv (.slot 22), some 23, none⟩, []⟩,
     ⟨⟨.mv (.slot 5), some 24, some (23, false)⟩, []⟩,
     ⟨⟨.mv (.slot 7), some 25, some (23, false)⟩, []⟩,
     ⟨⟨.lookup .i64 (.bool false) (.slot 24) (.slot 25) false, some 26, some (23, false)⟩, []⟩,
     ⟨⟨.pick (.slot 23) (.const (.bool true)) (.slot 26), some 27, none⟩, []⟩])
   (.cond (.slot 27)
    (.seq (.region false [⟨⟨.mv (.const (.int .i64 (.ofNat 5))), some 4, none⟩, []⟩])
    .ret)
    .skip))
   (.region false [⟨⟨.mv (.slot 5), some 28, none⟩, []⟩,
     ⟨⟨.mv (.slot 7), some 29, none⟩, []⟩,
     ⟨⟨.mapup .i64 (.slot 28) (.slot 29) (.const (.bool true)), none, none⟩, []⟩]))))
   (.region false [⟨⟨.bin .add 3 .num (.slot 12) (.const (.int .i64 (.ofNat 1))), some 30, none⟩, []⟩,
     ⟨⟨.mv (.slot 30), some 12, none⟩, []⟩])))))))
  (.seq (.seq (.region false [⟨⟨.mv (.slot 5), some 31, none⟩, []⟩,
    ⟨⟨.range .i64 (.slot 31), some 32, none⟩, []⟩])
  (.block 2 (.loop (.seq (.region false [⟨⟨.next (.slot 32), some 33, none⟩, []⟩,
     ⟨⟨.extract (.slot 33) 0, some 34, none⟩, []⟩])
   (.seq (.cond (.slot 34)
    .skip
    (.exit 2))
   (.block 3 (.seq (.region false [⟨⟨.entry (.slot 32), some 35, none⟩, []⟩,
     ⟨⟨.extract (.slot 35) 0, some 36, none⟩, []⟩,
     ⟨⟨.mv (.slot 36), some 8, none⟩, []⟩])
   (.seq (.region true [⟨⟨.mv (.slot 0), some 37, none⟩, []⟩,
     ⟨⟨.nilCheck (.slot 37), some 38, none⟩, []⟩,
     ⟨⟨.faddr 2 (.slot 38), some 39, none⟩, []⟩,
     ⟨⟨.load false 1 (.slot 39), some 40, none⟩, []⟩,
     ⟨⟨.mv (.slot 0), some 41, none⟩, []⟩,
     ⟨⟨.nilCheck (.slot 41), some 42, none⟩, []⟩,
     ⟨⟨.faddr 0 (.slot 42), some 43, none⟩, []⟩,
     ⟨⟨.load false 1 (.slot 43), some 44, none⟩, []⟩,
     ⟨⟨.mv (.slot 8), some 45, none⟩, []⟩,
     ⟨⟨.lookup .i64 .nilp (.slot 44) (.slot 45) false, some 46, none⟩, []⟩,
     ⟨⟨.nilCheck (.slot 46), some 47, none⟩, []⟩,
     ⟨⟨.faddr 0 (.slot 47), some 48, none⟩, []⟩,
     ⟨⟨.load false 1 (.slot 48), some 49, none⟩, []⟩,
     ⟨⟨.len .slice (.slot 49), some 50, none⟩, []⟩,
     ⟨⟨.bin .sub 3 .num (.slot 40) (.slot 50), some 51, none⟩, []⟩,
     ⟨⟨.nilCheck (.slot 37), some 52, none⟩, []⟩,
     ⟨⟨.faddr 2 (.slot 52), some 53, none⟩, []⟩,
     ⟨⟨.store 1 (.slot 53) (.slot 51), none, none⟩, []⟩])
   (.region false [⟨⟨.mv (.slot 0), some 54, none⟩, []⟩,
     ⟨⟨.nilCheck (.slot 54), some 55, none⟩, []⟩,
     ⟨⟨.faddr 0 (.slot 55), some 56, none⟩, []⟩,
     ⟨⟨.load false 1 (.slot 56), some 57, none⟩, []⟩,
     ⟨⟨.mv (.slot 8), some 58, none⟩, []⟩,
     ⟨⟨.delete .i64 (.slot 57) (.slot 58), none, none⟩, []⟩])))))))))
  (.seq (.region false [⟨⟨.mv (.const (.int .i64 (.ofNat 0))), some 4, none⟩, []⟩])
  .ret))))),
  [.tmp 4]⟩
theorem xf36_ok : compFunc Try.prog Try.f36 = some xf36 := by kernel_rfl
end Go.Proofs.Yteeidjmjeefpnaa

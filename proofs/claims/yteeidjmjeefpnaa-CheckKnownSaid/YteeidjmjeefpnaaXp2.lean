/- The functions of the program in X's code, printed by a program of ours; each is what the program's own is turned to. -/
import Derived.Test.YteeidjmjeefpnaaProg
import Derived.Test.YteeidjmjeefpnaaXc
import Derived.KernelRfl
namespace Go.Proofs.Yteeidjmjeefpnaa
open Go.Xr
/-- (*threshing/check.Checker).follows -/
def xf37 : XFunc := ⟨(.seq (.region false [⟨⟨.box (.slot 0), some 3, none⟩, []⟩,
    ⟨⟨.mv (.const (.int .i64 (.ofNat 0))), some 6, none⟩, []⟩])
  (.seq (.region false [⟨⟨.mv (.slot 1), some 14, none⟩, []⟩,
    ⟨⟨.call (.const (.func 51 [] [])) [(.slot 14)], some 15, none⟩, []⟩,
    ⟨⟨.mv (.slot 15), some 13, none⟩, []⟩,
    ⟨⟨.extract (.slot 13) 0, some 16, none⟩, []⟩,
    ⟨⟨.extract (.slot 13) 1, some 17, none⟩, []⟩,
    ⟨⟨.mv (.slot 16), some 7, none⟩, []⟩,
    ⟨⟨.mv (.slot 17), some 8, none⟩, []⟩])
  (.seq (.seq (.region false [⟨⟨.mv (.slot 8), some 18, none⟩, []⟩])
  (.cond (.slot 18)
   (.seq (.region false [⟨⟨.mv (.const (.int .i64 (.ofNat 0))), some 6, none⟩, []⟩])
   .ret)
   .skip))
  (.seq (.region false [⟨⟨.mkfunc 52 [] [(.slot 3)], some 19, none⟩, []⟩,
    ⟨⟨.defer (.slot 19) [], none, none⟩, []⟩])
  (.seq (.seq (.region false [⟨⟨.mv (.slot 7), some 20, none⟩, []⟩,
    ⟨⟨.len .slice (.slot 20), some 21, none⟩, []⟩,
    ⟨⟨.mv (.const (.int .i64 (.ofNat 0))), some 22, none⟩, []⟩])
  (.block 0 (.loop (.seq (.region false [⟨⟨.bin .lss 3 .num (.slot 22) (.slot 21), some 23, none⟩, []⟩])
   (.seq (.cond (.slot 23)
    .skip
    (.exit 0))
   (.seq (.block 1 (.seq (.region false [⟨⟨.iaddr 1 (.slot 20) (.slot 22), some 24, none⟩, []⟩,
     ⟨⟨.load false 1 (.slot 24), some 25, none⟩, []⟩,
     ⟨⟨.mv (.slot 25), some 10, none⟩, []⟩])
   (.region false [⟨⟨.load false 1 (.slot 3), some 26, none⟩, []⟩,
     ⟨⟨.mv (.slot 10), some 27, none⟩, []⟩,
     ⟨⟨.un .neg (.slot 27), some 28, none⟩, []⟩,
     ⟨⟨.call (.const (.func 54 [] [])) [(.slot 26), (.slot 28)], some 29, none⟩, []⟩])))
   (.region false [⟨⟨.bin .add 3 .num (.slot 22) (.const (.int .i64 (.ofNat 1))), some 30, none⟩, []⟩,
     ⟨⟨.mv (.slot 30), some 22, none⟩, []⟩])))))))
  (.seq (.region false [⟨⟨.mv (.slot 2), some 32, none⟩, []⟩,
    ⟨⟨.call (.const (.func 55 [] [])) [(.slot 32)], some 33, none⟩, []⟩,
    ⟨⟨.mv (.slot 33), some 31, none⟩, []⟩,
    ⟨⟨.extract (.slot 31) 0, some 34, none⟩, []⟩,
    ⟨⟨.extract (.slot 31) 1, some 35, none⟩, []⟩,
    ⟨⟨.mv (.slot 34), some 11, none⟩, []⟩,
    ⟨⟨.mv (.slot 35), some 12, none⟩, []⟩])
  (.seq (.seq (.region false [⟨⟨.load false 1 (.slot 3), some 36, none⟩, []⟩,
    ⟨⟨.mv (.slot 11), some 37, none⟩, []⟩,
    ⟨⟨.call (.const (.func 56 [] [])) [(.slot 36), (.slot 37)], some 38, none⟩, []⟩])
  (.block 2 (.seq (.region false [⟨⟨.bin .eql 93 .num (.slot 38) (.const (.int .i64 (.ofNat 1))), some 40, none⟩, []⟩,
    ⟨⟨.mv (.slot 40), some 39, none⟩, []⟩])
  (.cond (.slot 39)
   (.seq (.region false [⟨⟨.mv (.const (.int .i64 (.ofNat 0))), some 6, none⟩, []⟩])
   .ret)
   (.seq (.region false [⟨⟨.bin .eql 93 .num (.slot 38) (.const (.int .i64 (.ofNat 2))), some 42, none⟩, []⟩,
     ⟨⟨.mv (.slot 42), some 41, none⟩, []⟩])
   (.cond (.slot 41)
    (.seq (.region false [⟨⟨.mv (.const (.int .i64 (.ofNat 60))), some 6, none⟩, []⟩])
    .ret)
    .skip))))))
  (.seq (.seq (.region false [⟨⟨.mv (.slot 1), some 43, none⟩, []⟩,
    ⟨⟨.len .slice (.slot 43), some 44, none⟩, []⟩,
    ⟨⟨.bin .eql 3 .num (.slot 44) (.const (.int .i64 (.ofNat 0))), some 45, none⟩, []⟩])
  (.cond (.slot 45)
   (.seq (.region false [⟨⟨.mv (.const (.int .i64 (.ofNat 61))), some 6, none⟩, []⟩])
   .ret)
   .skip))
  (.seq (.region true [⟨⟨.load false 1 (.slot 3), some 46, none⟩, []⟩,
    ⟨⟨.mv (.slot 1), some 47, none⟩, []⟩,
    ⟨⟨.iaddr 1 (.slot 47) (.const (.int .i64 (.ofNat 0))), some 48, none⟩, []⟩,
    ⟨⟨.load false 1 (.slot 48), some 49, none⟩, []⟩,
    ⟨⟨.mv (.slot 12), some 50, none⟩, []⟩,
    ⟨⟨.call (.const (.func 57 [] [])) [(.slot 46), (.slot 49), (.slot 50)], some 51, none⟩, []⟩,
    ⟨⟨.mv (.slot 51), some 6, none⟩, []⟩])
  .ret))))))))),
  [.tmp 6]⟩
theorem xf37_ok : compFunc Try.prog Try.f37 = some xf37 := by kernel_rfl
/-- threshing/threshingref01.True -/
def xf38 : XFunc := ⟨(.seq (.region false [⟨⟨.mv (.const (.bool false)), some 4, none⟩, []⟩])
  (.seq (.region false [⟨⟨.mv (.slot 0), some 6, none⟩, []⟩,
    ⟨⟨.call (.const (.func 39 [] [])) [(.slot 6)], some 7, none⟩, []⟩,
    ⟨⟨.mv (.slot 7), some 5, none⟩, []⟩])
  (.seq (.region false [⟨⟨.mv (.slot 5), some 8, none⟩, []⟩,
    ⟨⟨.bin .geq 3 .num (.slot 8) (.const (.int .i64 (.ofNat 1))), some 9, none⟩, []⟩,
    ⟨⟨.mv (.slot 9), some 10, none⟩, []⟩,
    ⟨⟨.mv (.slot 5), some 11, some (10, true)⟩, []⟩,
    ⟨⟨.mv (.slot 1), some 12, some (10, true)⟩, []⟩,
    ⟨⟨.len .slice (.slot 12), some 13, some (10, true)⟩, []⟩,
    ⟨⟨.bin .leq 3 .num (.slot 11) (.slot 13), some 14, some (10, true)⟩, []⟩,
    ⟨⟨.pick (.slot 10) (.slot 14) (.const (.bool false)), some 15, none⟩, []⟩,
    ⟨⟨.mv (.slot 15), some 16, none⟩, []⟩,
    ⟨⟨.mv (.slot 1), some 17, some (16, true)⟩, []⟩,
    ⟨⟨.mv (.slot 5), some 18, some (16, true)⟩, []⟩,
    ⟨⟨.bin .sub 3 .num (.slot 18) (.const (.int .i64 (.ofNat 1))), some 19, some (16, true)⟩, []⟩,
    ⟨⟨.iaddr 1 (.slot 17) (.slot 19), some 20, some (16, true)⟩, []⟩,
    ⟨⟨.load false 1 (.slot 20), some 21, some (16, true)⟩, []⟩,
    ⟨⟨.mv (.slot 0), some 22, some (16, true)⟩, []⟩,
    ⟨⟨.bin .gtr 55 .num (.slot 22) (.const (.int .i32 (.ofNat 0))), some 23, some (16, true)⟩, []⟩,
    ⟨⟨.bin .eql 4 .bool (.slot 21) (.slot 23), some 24, some (16, true)⟩, []⟩,
    ⟨⟨.pick (.slot 16) (.slot 24) (.const (.bool false)), some 25, none⟩, []⟩,
    ⟨⟨.mv (.slot 25), some 4, none⟩, []⟩])
  .ret))),
  [.tmp 4]⟩
theorem xf38_ok : compFunc Try.prog Try.f38 = some xf38 := by kernel_rfl
/-- threshing/threshingref01.Var -/
def xf39 : XFunc := ⟨(.seq (.region false [⟨⟨.mv (.const (.int .i64 (.ofNat 0))), some 2, none⟩, []⟩])
  (.seq (.seq (.region false [⟨⟨.mv (.slot 0), some 3, none⟩, []⟩,
    ⟨⟨.bin .lss 55 .num (.slot 3) (.const (.int .i32 (.ofNat 0))), some 4, none⟩, []⟩])
  (.cond (.slot 4)
   (.seq (.region false [⟨⟨.mv (.slot 0), some 5, none⟩, []⟩,
     ⟨⟨.conv .i64 (.slot 5), some 6, none⟩, []⟩,
     ⟨⟨.un .neg (.slot 6), some 7, none⟩, []⟩,
     ⟨⟨.mv (.slot 7), some 2, none⟩, []⟩])
   .ret)
   .skip))
  (.seq (.region false [⟨⟨.mv (.slot 0), some 8, none⟩, []⟩,
    ⟨⟨.conv .i64 (.slot 8), some 9, none⟩, []⟩,
    ⟨⟨.mv (.slot 9), some 2, none⟩, []⟩])
  .ret))),
  [.tmp 2]⟩
theorem xf39_ok : compFunc Try.prog Try.f39 = some xf39 := by kernel_rfl
/-- threshing/threshingref01.Has -/
def xf40 : XFunc := ⟨(.seq (.region false [⟨⟨.mv (.const (.bool false)), some 4, none⟩, []⟩])
  (.seq (.seq (.region false [⟨⟨.mv (.const (.int .i64 (.ofNat 0))), some 5, none⟩, []⟩])
  (.block 0 (.loop (.seq (.seq (.region false [⟨⟨.mv (.slot 5), some 6, none⟩, []⟩,
     ⟨⟨.mv (.slot 0), some 7, none⟩, []⟩,
     ⟨⟨.len .slice (.slot 7), some 8, none⟩, []⟩,
     ⟨⟨.bin .lss 3 .num (.slot 6) (.slot 8), some 9, none⟩, []⟩])
   (.cond (.slot 9)
    .skip
    (.exit 0)))
   (.seq (.block 1 (.seq (.region false [⟨⟨.mv (.slot 0), some 12, none⟩, []⟩,
     ⟨⟨.mv (.slot 5), some 13, none⟩, []⟩,
     ⟨⟨.iaddr 1 (.slot 12) (.slot 13), some 14, none⟩, []⟩,
     ⟨⟨.load false 1 (.slot 14), some 15, none⟩, []⟩,
     ⟨⟨.mv (.slot 1), some 16, none⟩, []⟩,
     ⟨⟨.bin .eql 55 .num (.slot 15) (.slot 16), some 17, none⟩, []⟩])
   (.cond (.slot 17)
    (.seq (.region false [⟨⟨.mv (.const (.bool true)), some 4, none⟩, []⟩])
    .ret)
    .skip)))
   (.region false [⟨⟨.mv (.slot 5), some 10, none⟩, []⟩,
     ⟨⟨.bin .add 3 .num (.slot 10) (.const (.int .i64 (.ofNat 1))), some 11, none⟩, []⟩,
     ⟨⟨.mv (.slot 11), some 5, none⟩, []⟩]))))))
  (.seq (.region false [⟨⟨.mv (.const (.bool false)), some 4, none⟩, []⟩])
  .ret))),
  [.tmp 4]⟩
theorem xf40_ok : compFunc Try.prog Try.f40 = some xf40 := by kernel_rfl
/-- slices.Sorted[int64] -/
def xf41 : XFunc := ⟨(.seq (.region false [⟨⟨.mv (.const .nils), some 2, none⟩, []⟩])
  (.seq (.region false [⟨⟨.mv (.slot 0), some 4, none⟩, []⟩,
    ⟨⟨.call (.const (.func 58 [] [])) [(.slot 4)], some 5, none⟩, []⟩,
    ⟨⟨.mv (.slot 5), some 3, none⟩, []⟩])
  (.seq (.region false [⟨⟨.mv (.slot 3), some 6, none⟩, []⟩,
    ⟨⟨.call (.const (.func 59 [] [])) [(.slot 6)], some 7, none⟩, []⟩])
  (.seq (.region false [⟨⟨.mv (.slot 3), some 8, none⟩, []⟩,
    ⟨⟨.mv (.slot 8), some 2, none⟩, []⟩])
  .ret)))),
  [.tmp 2]⟩
theorem xf41_ok : compFunc Try.prog Try.f41 = some xf41 := by kernel_rfl
/-- maps.Keys[map[int64]*threshing/check.held,int64,*threshing/check.held] -/
def xf42 : XFunc := ⟨(.seq (.region false [⟨⟨.box (.slot 0), some 1, none⟩, []⟩,
    ⟨⟨.mv (.const .nilf), some 2, none⟩, []⟩])
  (.seq (.region false [⟨⟨.mkfunc 60 [] [(.slot 1)], some 3, none⟩, []⟩,
    ⟨⟨.mv (.slot 3), some 2, none⟩, []⟩])
  .ret)),
  [.tmp 2]⟩
theorem xf42_ok : compFunc Try.prog Try.f42 = some xf42 := by kernel_rfl
/-- threshing/threshingref03.Taken -/
def xf43 : XFunc := ⟨(.seq (.region false [⟨⟨.box (.slot 0), some 1, none⟩, []⟩,
    ⟨⟨.mv (.const (.int .i64 (.ofNat 0))), some 2, none⟩, []⟩])
  (.seq (.region false [⟨⟨.load true 2 (.slot 1), some 4, none⟩, []⟩,
    ⟨⟨.call (.const (.func 45 [] [])) [(.slot 4)], some 5, none⟩, []⟩,
    ⟨⟨.mv (.slot 5), some 3, none⟩, []⟩])
  (.seq (.seq (.region false [⟨⟨.mv (.slot 3), some 6, none⟩, []⟩,
    ⟨⟨.bin .eql 28 .num (.slot 6) (.const (.int .i64 (.ofNat 0))), some 7, none⟩, []⟩,
    ⟨⟨.mv (.slot 7), some 8, none⟩, []⟩,
    ⟨⟨.faddr 0 (.slot 1), some 9, some (8, true)⟩, []⟩,
    ⟨⟨.load false 1 (.slot 9), some 10, some (8, true)⟩, []⟩,
    ⟨⟨.bin .gtr 3 .num (.slot 10) (.const (.int .i64 (.ofNat 16))), some 11, some (8, true)⟩, []⟩,
    ⟨⟨.pick (.slot 8) (.slot 11) (.const (.bool false)), some 12, none⟩, []⟩])
  (.cond (.slot 12)
   (.seq (.region false [⟨⟨.mv (.const (.int .i64 (.ofNat 3))), some 2, none⟩, []⟩])
   .ret)
   .skip))
  (.seq (.region false [⟨⟨.mv (.slot 3), some 13, none⟩, []⟩,
    ⟨⟨.mv (.slot 13), some 2, none⟩, []⟩])
  .ret)))),
  [.tmp 2]⟩
theorem xf43_ok : compFunc Try.prog Try.f43 = some xf43 := by kernel_rfl
/-- slices.Clone[threshing/api.Clause,threshing/api.Lit] -/
def xf44 : XFunc := ⟨(.seq (.region false [⟨⟨.mv (.const .nils), some 2, none⟩, []⟩])
  (.seq (.seq (.region false [⟨⟨.mv (.slot 0), some 3, none⟩, []⟩,
    ⟨⟨.bin .eql 32 .slice (.slot 3) (.const .nils), some 4, none⟩, []⟩])
  (.cond (.slot 4)
   (.seq (.region false [⟨⟨.mv (.const .nils), some 2, none⟩, []⟩])
   .ret)
   .skip))
  (.seq (.region false [⟨⟨.bslice 1 [] [] 0, some 5, none⟩, []⟩,
    ⟨⟨.mv (.slot 0), some 6, none⟩, []⟩,
    ⟨⟨.append 1 4 (.slot 5) (.slot 6), some 7, none⟩, []⟩,
    ⟨⟨.mv (.slot 7), some 2, none⟩, []⟩])
  .ret))),
  [.tmp 2]⟩
theorem xf44_ok : compFunc Try.prog Try.f44 = some xf44 := by kernel_rfl
/-- threshing/threshingref01.Right -/
def xf45 : XFunc := ⟨(.seq (.region false [⟨⟨.box (.slot 0), some 1, none⟩, []⟩,
    ⟨⟨.mv (.const (.int .i64 (.ofNat 0))), some 2, none⟩, []⟩])
  (.seq (.seq (.region false [⟨⟨.faddr 0 (.slot 1), some 7, none⟩, []⟩,
    ⟨⟨.load false 1 (.slot 7), some 8, none⟩, []⟩,
    ⟨⟨.bin .lss 3 .num (.slot 8) (.const (.int .i64 (.ofNat 0))), some 9, none⟩, []⟩,
    ⟨⟨.mv (.slot 9), some 10, none⟩, []⟩,
    ⟨⟨.faddr 0 (.slot 1), some 11, some (10, false)⟩, []⟩,
    ⟨⟨.load false 1 (.slot 11), some 12, some (10, false)⟩, []⟩,
    ⟨⟨.bin .gtr 3 .num (.slot 12) (.const (.int .i64 (.ofNat 1048576))), some 13, some (10, false)⟩, []⟩,
    ⟨⟨.pick (.slot 10) (.const (.bool true)) (.slot 13), some 14, none⟩, []⟩])
  (.cond (.slot 14)
   (.seq (.region false [⟨⟨.mv (.const (.int .i64 (.ofNat 2))), some 2, none⟩, []⟩])
   .ret)
   .skip))
  (.seq (.seq (.region false [⟨⟨.faddr 1 (.slot 1), some 15, none⟩, []⟩,
    ⟨⟨.load false 1 (.slot 15), some 16, none⟩, []⟩,
    ⟨⟨.len .slice (.slot 16), some 17, none⟩, []⟩,
    ⟨⟨.bin .gtr 3 .num (.slot 17) (.const (.int .i64 (.ofNat 1048576))), some 18, none⟩, []⟩])
  (.cond (.slot 18)
   (.seq (.region false [⟨⟨.mv (.const (.int .i64 (.ofNat 3))), some 2, none⟩, []⟩])
   .ret)
   .skip))
  (.seq (.region false [⟨⟨.mv (.const (.int .i64 (.ofNat 0))), some 3, none⟩, []⟩])
  (.seq (.seq (.region false [⟨⟨.mv (.const (.int .i64 (.ofNat 0))), some 4, none⟩, []⟩])
  (.block 0 (.loop (.seq (.seq (.region false [⟨⟨.mv (.slot 4), some 19, none⟩, []⟩,
     ⟨⟨.faddr 1 (.slot 1), some 20, none⟩, []⟩,
     ⟨⟨.load false 1 (.slot 20), some 21, none⟩, []⟩,
     ⟨⟨.len .slice (.slot 21), some 22, none⟩, []⟩,
     ⟨⟨.bin .lss 3 .num (.slot 19) (.slot 22), some 23, none⟩, []⟩])
   (.cond (.slot 23)
    .skip
    (.exit 0)))
   (.seq (.block 1 (.seq (.region false [⟨⟨.mv (.const (.int .i64 (.ofNat 0))), some 5, none⟩, []⟩])
   (.block 2 (.loop (.seq (.seq (.region false [⟨⟨.mv (.slot 5), some 26, none⟩, []⟩,
      ⟨⟨.faddr 1 (.slot 1), some 27, none⟩, []⟩,
      ⟨⟨.load false 1 (.slot 27), some 28, none⟩, []⟩,
      ⟨⟨.mv (.slot 4), some 29, none⟩, []⟩,
      ⟨⟨.iaddr 1 (.slot 28) (.slot 29), some 30, none⟩, []⟩,
      ⟨⟨.load false 1 (.slot 30), some 31, none⟩, []⟩,
      ⟨⟨.len .slice (.slot 31), some 32, none⟩, []⟩,
      ⟨⟨.bin .lss 3 .num (.slot 26) (.slot 32), some 33, none⟩, []⟩])
    (.cond (.slot 33)
     .skip
     (.exit 2)))
    (.seq (.block 3 (.seq (.region false [⟨⟨.mv (.slot 3), some 36, none⟩, []⟩,
      ⟨⟨.bin .add 3 .num (.slot 36) (.const (.int .i64 (.ofNat 1))), some 37, none⟩, []⟩,
      ⟨⟨.mv (.slot 37), some 3, none⟩, []⟩])
    (.seq (.seq (.region false [⟨⟨.mv (.slot 3), some 38, none⟩, []⟩,
      ⟨⟨.bin .gtr 3 .num (.slot 38) (.const (.int .i64 (.ofNat 16777216))), some 39, none⟩, []⟩])
    (.cond (.slot 39)
     (.seq (.region false [⟨⟨.mv (.const (.int .i64 (.ofNat 3))), some 2, none⟩, []⟩])
     .ret)
     .skip))
    (.seq (.region false [⟨⟨.faddr 1 (.slot 1), some 40, none⟩, []⟩,
      ⟨⟨.load false 1 (.slot 40), some 41, none⟩, []⟩,
      ⟨⟨.mv (.slot 4), some 42, none⟩, []⟩,
      ⟨⟨.iaddr 1 (.slot 41) (.slot 42), some 43, none⟩, []⟩,
      ⟨⟨.load false 1 (.slot 43), some 44, none⟩, []⟩,
      ⟨⟨.mv (.slot 5), some 45, none⟩, []⟩,
      ⟨⟨.iaddr 1 (.slot 44) (.slot 45), some 46, none⟩, []⟩,
      ⟨⟨.load false 1 (.slot 46), some 47, none⟩, []⟩,
      ⟨⟨.mv (.slot 47), some 6, none⟩, []⟩])
    (.seq (.region true [⟨⟨.mv (.slot 6), some 48, none⟩, []⟩,
      ⟨⟨.bin .eql 55 .num (.slot 48) (.const (.int .i32 (.ofNat 0))), some 49, none⟩, []⟩,
      ⟨⟨.mv (.slot 49), some 50, none⟩, []⟩,
      ⟨⟨.mv (.slot 6), some 51, some (50, false)⟩, []⟩,
      ⟨⟨.faddr 0 (.slot 1), some 53, some (50, false)⟩, []⟩,
      ⟨⟨.load false 1 (.slot 53), some 54, some (50, false)⟩, []⟩,
      ⟨⟨.call (.const (.func 39 [] [])) [(.slot 51)], some 52, some (50, false)⟩, [⟨.load false 1 (.slot 53), some 54, some (50, false)⟩]⟩,
      ⟨⟨.bin .gtr 3 .num (.slot 52) (.slot 54), some 55, some (50, false)⟩, []⟩,
      ⟨⟨.pick (.slot 50) (.const (.bool true)) (.slot 55), some 56, none⟩, []⟩])
    (.cond (.slot 56)
     (.seq (.region false [⟨⟨.mv (.const (.int .i64 (.ofNat 4))), some 2, none⟩, []⟩])
     .ret)
     .skip))))))
    (.region false [⟨⟨.mv (.slot 5), some 34, none⟩, []⟩,
      ⟨⟨.bin .add 3 .num (.slot 34) (.const (.int .i64 (.ofNat 1))), some 35, none⟩, []⟩,
      ⟨⟨.mv (.slot 35), some 5, none⟩, []⟩])))))))
   (.region false [⟨⟨.mv (.slot 4), some 24, none⟩, []⟩,
     ⟨⟨.bin .add 3 .num (.slot 24) (.const (.int .i64 (.ofNat 1))), some 25, none⟩, []⟩,
     ⟨⟨.mv (.slot 25), some 4, none⟩, []⟩]))))))
  (.seq (.region false [⟨⟨.mv (.const (.int .i64 (.ofNat 0))), some 2, none⟩, []⟩])
  .ret)))))),
  [.tmp 2]⟩
theorem xf45_ok : compFunc Try.prog Try.f45 = some xf45 := by kernel_rfl
/-- (*threshing/threshingref06.Checker).put -/
def xf46 : XFunc := ⟨(.seq (.region false [⟨⟨.mv (.const .nils), some 6, none⟩, []⟩])
  (.seq (.region false [⟨⟨.mv (.slot 6), some 7, none⟩, []⟩,
    ⟨⟨.mv (.slot 2), some 8, none⟩, []⟩,
    ⟨⟨.append 1 4 (.slot 7) (.slot 8), some 9, none⟩, []⟩,
    ⟨⟨.mv (.slot 9), some 6, none⟩, []⟩])
  (.seq (.region false [⟨⟨.mv (.slot 0), some 10, none⟩, []⟩,
    ⟨⟨.mv (.slot 0), some 11, none⟩, []⟩,
    ⟨⟨.nilCheck (.slot 11), some 12, none⟩, []⟩,
    ⟨⟨.faddr 0 (.slot 12), some 13, none⟩, []⟩,
    ⟨⟨.load false 1 (.slot 13), some 14, none⟩, []⟩,
    ⟨⟨.mv (.slot 1), some 15, none⟩, []⟩,
    ⟨⟨.mv (.slot 6), some 16, none⟩, []⟩,
    ⟨⟨.build [(.int .i64 (.ofNat 0)), .nils] [(0, 1, (.slot 15)), (1, 1, (.slot 16))], some 17, none⟩, []⟩,
    ⟨⟨.bslice 2 [(.int .i64 (.ofNat 0)), .nils] [(0, 2, (.slot 17))] 1, some 18, none⟩, []⟩,
    ⟨⟨.append 2 32 (.slot 14) (.slot 18), some 19, none⟩, []⟩,
    ⟨⟨.nilCheck (.slot 10), some 20, none⟩, []⟩,
    ⟨⟨.faddr 0 (.slot 20), some 21, none⟩, []⟩,
    ⟨⟨.store 1 (.slot 21) (.slot 19), none, none⟩, []⟩])
  (.seq (.region false [⟨⟨.mv (.slot 0), some 22, none⟩, []⟩,
    ⟨⟨.mv (.slot 1), some 23, none⟩, []⟩,
    ⟨⟨.nilCheck (.slot 22), some 24, none⟩, []⟩,
    ⟨⟨.faddr 1 (.slot 24), some 25, none⟩, []⟩,
    ⟨⟨.store 1 (.slot 25) (.slot 23), none, none⟩, []⟩])
  (.seq (.region false [⟨⟨.mv (.slot 0), some 26, none⟩, []⟩,
    ⟨⟨.mv (.slot 0), some 27, none⟩, []⟩,
    ⟨⟨.nilCheck (.slot 27), some 28, none⟩, []⟩,
    ⟨⟨.faddr 3 (.slot 28), some 29, none⟩, []⟩,
    ⟨⟨.load false 1 (.slot 29), some 30, none⟩, []⟩,
    ⟨⟨.mv (.slot 2), some 31, none⟩, []⟩,
    ⟨⟨.len .slice (.slot 31), some 32, none⟩, []⟩,
    ⟨⟨.bin .add 3 .num (.slot 30) (.slot 32), some 33, none⟩, []⟩,
    ⟨⟨.nilCheck (.slot 26), some 34, none⟩, []⟩,
    ⟨⟨.faddr 3 (.slot 34), some 35, none⟩, []⟩,
    ⟨⟨.store 1 (.slot 35) (.slot 33), none, none⟩, []⟩])
  (.region false [⟨⟨.mv (.slot 0), some 36, none⟩, []⟩,
    ⟨⟨.mv (.slot 0), some 37, none⟩, []⟩,
    ⟨⟨.nilCheck (.slot 37), some 38, none⟩, []⟩,
    ⟨⟨.faddr 2 (.slot 38), some 39, none⟩, []⟩,
    ⟨⟨.load false 1 (.slot 39), some 40, none⟩, []⟩,
    ⟨⟨.mv (.slot 40), some 41, none⟩, []⟩,
    ⟨⟨.mv (.slot 2), some 42, some (41, false)⟩, []⟩,
    ⟨⟨.len .slice (.slot 42), some 43, some (41, false)⟩, []⟩,
    ⟨⟨.bin .eql 3 .num (.slot 43) (.const (.int .i64 (.ofNat 0))), some 44, some (41, false)⟩, []⟩,
    ⟨⟨.pick (.slot 41) (.const (.bool true)) (.slot 44), some 45, none⟩, []⟩,
    ⟨⟨.nilCheck (.slot 36), some 46, none⟩, []⟩,
    ⟨⟨.faddr 2 (.slot 46), some 47, none⟩, []⟩,
    ⟨⟨.store 1 (.slot 47) (.slot 45), none, none⟩, []⟩])))))),
  []⟩
theorem xf46_ok : compFunc Try.prog Try.f46 = some xf46 := by kernel_rfl
/-- threshing/threshingref04.May -/
def xf47 : XFunc := ⟨(.seq (.region false [⟨⟨.box (.slot 0), some 1, none⟩, []⟩,
    ⟨⟨.mv (.const (.bool false)), some 2, none⟩, []⟩])
  (.seq (.region false [⟨⟨.mv (.const (.int .i64 (.ofNat 0))), some 3, none⟩, []⟩])
  (.seq (.seq (.region false [⟨⟨.faddr 0 (.slot 1), some 7, none⟩, []⟩,
    ⟨⟨.load false 1 (.slot 7), some 8, none⟩, []⟩])
  (.block 0 (.seq (.region false [⟨⟨.bin .eql 5 .num (.slot 8) (.const (.int .u8 (.ofNat 1))), some 10, none⟩, []⟩,
    ⟨⟨.mv (.slot 10), some 9, none⟩, []⟩])
  (.cond (.slot 9)
   (.region false [⟨⟨.mv (.const (.int .i64 (.ofNat 1))), some 3, none⟩, []⟩])
   (.seq (.region false [⟨⟨.bin .eql 5 .num (.slot 8) (.const (.int .u8 (.ofNat 2))), some 12, none⟩, []⟩,
     ⟨⟨.mv (.slot 12), some 11, none⟩, []⟩])
   (.cond (.slot 11)
    (.seq (.region false [⟨⟨.faddr 2 (.slot 1), some 13, none⟩, []⟩,
      ⟨⟨.load false 1 (.slot 13), some 14, none⟩, []⟩,
      ⟨⟨.len .slice (.slot 14), some 15, none⟩, []⟩,
      ⟨⟨.bin .gtr 3 .num (.slot 15) (.const (.int .i64 (.ofNat 0))), some 16, none⟩, []⟩])
    (.cond (.slot 16)
     (.seq (.region false [⟨⟨.mv (.const (.bool false)), some 2, none⟩, []⟩])
     .ret)
     .skip))
    (.seq (.region false [⟨⟨.mv (.const (.bool false)), some 2, none⟩, []⟩])
    .ret)))))))
  (.seq (.seq (.region false [⟨⟨.faddr 1 (.slot 1), some 17, none⟩, []⟩,
    ⟨⟨.load false 1 (.slot 17), some 18, none⟩, []⟩,
    ⟨⟨.mv (.slot 3), some 19, none⟩, []⟩,
    ⟨⟨.bin .lss 2 .num (.slot 18) (.slot 19), some 20, none⟩, []⟩,
    ⟨⟨.mv (.slot 20), some 21, none⟩, []⟩,
    ⟨⟨.faddr 1 (.slot 1), some 22, some (21, false)⟩, []⟩,
    ⟨⟨.load false 1 (.slot 22), some 23, some (21, false)⟩, []⟩,
    ⟨⟨.bin .gtr 2 .num (.slot 23) (.const (.int .i64 (.ofNat 4611686018427387903))), some 24, some (21, false)⟩, []⟩,
    ⟨⟨.pick (.slot 21) (.const (.bool true)) (.slot 24), some 25, none⟩, []⟩])
  (.cond (.slot 25)
   (.seq (.region false [⟨⟨.mv (.const (.bool false)), some 2, none⟩, []⟩])
   .ret)
   .skip))
  (.seq (.seq (.region false [⟨⟨.mv (.const (.int .i64 (.ofNat 0))), some 4, none⟩, []⟩])
  (.block 1 (.loop (.seq (.seq (.region false [⟨⟨.mv (.slot 4), some 26, none⟩, []⟩,
     ⟨⟨.faddr 2 (.slot 1), some 27, none⟩, []⟩,
     ⟨⟨.load false 1 (.slot 27), some 28, none⟩, []⟩,
     ⟨⟨.len .slice (.slot 28), some 29, none⟩, []⟩,
     ⟨⟨.bin .lss 3 .num (.slot 26) (.slot 29), some 30, none⟩, []⟩])
   (.cond (.slot 30)
    .skip
    (.exit 1)))
   (.seq (.block 2 (.seq (.region false [⟨⟨.faddr 2 (.slot 1), some 33, none⟩, []⟩,
     ⟨⟨.load false 1 (.slot 33), some 34, none⟩, []⟩,
     ⟨⟨.mv (.slot 4), some 35, none⟩, []⟩,
     ⟨⟨.iaddr 1 (.slot 34) (.slot 35), some 36, none⟩, []⟩,
     ⟨⟨.load false 1 (.slot 36), some 37, none⟩, []⟩,
     ⟨⟨.call (.const (.func 61 [] [])) [(.slot 37)], some 38, none⟩, []⟩,
     ⟨⟨.un .not (.slot 38), some 39, none⟩, []⟩])
   (.cond (.slot 39)
    (.seq (.region false [⟨⟨.mv (.const (.bool false)), some 2, none⟩, []⟩])
    .ret)
    .skip)))
   (.region false [⟨⟨.mv (.slot 4), some 31, none⟩, []⟩,
     ⟨⟨.bin .add 3 .num (.slot 31) (.const (.int .i64 (.ofNat 1))), some 32, none⟩, []⟩,
     ⟨⟨.mv (.slot 32), some 4, none⟩, []⟩]))))))
  (.seq (.seq (.region false [⟨⟨.mv (.const (.int .i64 (.ofNat 0))), some 5, none⟩, []⟩])
  (.block 3 (.loop (.seq (.seq (.region false [⟨⟨.mv (.slot 5), some 40, none⟩, []⟩,
     ⟨⟨.faddr 3 (.slot 1), some 41, none⟩, []⟩,
     ⟨⟨.load false 1 (.slot 41), some 42, none⟩, []⟩,
     ⟨⟨.len .slice (.slot 42), some 43, none⟩, []⟩,
     ⟨⟨.bin .lss 3 .num (.slot 40) (.slot 43), some 44, none⟩, []⟩])
   (.cond (.slot 44)
    .skip
    (.exit 3)))
   (.seq (.block 4 (.seq (.region false [⟨⟨.faddr 3 (.slot 1), some 47, none⟩, []⟩,
     ⟨⟨.load false 1 (.slot 47), some 48, none⟩, []⟩,
     ⟨⟨.mv (.slot 5), some 49, none⟩, []⟩,
     ⟨⟨.iaddr 1 (.slot 48) (.slot 49), some 50, none⟩, []⟩,
     ⟨⟨.load false 1 (.slot 50), some 51, none⟩, []⟩,
     ⟨⟨.mv (.slot 51), some 6, none⟩, []⟩])
   (.seq (.region false [⟨⟨.mv (.slot 6), some 52, none⟩, []⟩,
     ⟨⟨.bin .eql 2 .num (.slot 52) (.const (.int .i64 (.ofNat 0))), some 53, none⟩, []⟩,
     ⟨⟨.mv (.slot 53), some 54, none⟩, []⟩,
     ⟨⟨.mv (.slot 6), some 55, some (54, false)⟩, []⟩,
     ⟨⟨.bin .gtr 2 .num (.slot 55) (.const (.int .i64 (.ofNat 4611686018427387903))), some 56, some (54, false)⟩, []⟩,
     ⟨⟨.pick (.slot 54) (.const (.bool true)) (.slot 56), some 57, none⟩, []⟩,
     ⟨⟨.mv (.slot 57), some 58, none⟩, []⟩,
     ⟨⟨.mv (.slot 6), some 59, some (58, false)⟩, []⟩,
     ⟨⟨.bin .lss 2 .num (.slot 59) (.const (.int .i64 (.negSucc 4611686018427387902))), some 60, some (58, false)⟩, []⟩,
     ⟨⟨.pick (.slot 58) (.const (.bool true)) (.slot 60), some 61, none⟩, []⟩,
     ⟨⟨.mv (.slot 61), some 62, none⟩, []⟩,
     ⟨⟨.mv (.slot 6), some 63, some (62, false)⟩, []⟩,
     ⟨⟨.bin .lss 2 .num (.slot 63) (.const (.int .i64 (.ofNat 0))), some 64, some (62, false)⟩, []⟩,
     ⟨⟨.mv (.slot 64), some 65, some (62, false)⟩, []⟩,
     ⟨⟨.faddr 0 (.slot 1), some 66, some (65, true)⟩, []⟩,
     ⟨⟨.load false 1 (.slot 66), some 67, some (65, true)⟩, []⟩,
     ⟨⟨.bin .eql 5 .num (.slot 67) (.const (.int .u8 (.ofNat 2))), some 68, some (65, true)⟩, []⟩,
     ⟨⟨.pick (.slot 65) (.slot 68) (.const (.bool false)), some 69, some (62, false)⟩, []⟩,
     ⟨⟨.pick (.slot 62) (.const (.bool true)) (.slot 69), some 70, none⟩, []⟩])
   (.cond (.slot 70)
    (.seq (.region false [⟨⟨.mv (.const (.bool false)), some 2, none⟩, []⟩])
    .ret)
    .skip))))
   (.region false [⟨⟨.mv (.slot 5), some 45, none⟩, []⟩,
     ⟨⟨.bin .add 3 .num (.slot 45) (.const (.int .i64 (.ofNat 1))), some 46, none⟩, []⟩,
     ⟨⟨.mv (.slot 46), some 5, none⟩, []⟩]))))))
  (.seq (.region false [⟨⟨.mv (.const (.bool true)), some 2, none⟩, []⟩])
  .ret))))))),
  [.tmp 2]⟩
theorem xf47_ok : compFunc Try.prog Try.f47 = some xf47 := by kernel_rfl
/-- (*threshing/threshingref06.Checker).drop -/
def xf48 : XFunc := ⟨(.seq (.region false [⟨⟨.mv (.const (.int .i64 (.ofNat 0))), some 4, none⟩, []⟩])
  (.seq (.seq (.region false [⟨⟨.mv (.const (.int .i64 (.ofNat 0))), some 5, none⟩, []⟩])
  (.block 0 (.loop (.seq (.seq (.region false [⟨⟨.mv (.slot 5), some 10, none⟩, []⟩,
     ⟨⟨.mv (.slot 1), some 11, none⟩, []⟩,
     ⟨⟨.len .slice (.slot 11), some 12, none⟩, []⟩,
     ⟨⟨.bin .lss 3 .num (.slot 10) (.slot 12), some 13, none⟩, []⟩])
   (.cond (.slot 13)
    .skip
    (.exit 0)))
   (.seq (.block 1 (.seq (.seq (.region false [⟨⟨.mv (.slot 0), some 16, none⟩, []⟩,
     ⟨⟨.mv (.slot 1), some 17, none⟩, []⟩,
     ⟨⟨.mv (.slot 5), some 18, none⟩, []⟩,
     ⟨⟨.iaddr 1 (.slot 17) (.slot 18), some 19, none⟩, []⟩,
     ⟨⟨.load false 1 (.slot 19), some 20, none⟩, []⟩,
     ⟨⟨.call (.const (.func 62 [] [])) [(.slot 16), (.slot 20)], some 21, none⟩, []⟩,
     ⟨⟨.bin .lss 3 .num (.slot 21) (.const (.int .i64 (.ofNat 0))), some 22, none⟩, []⟩])
   (.cond (.slot 22)
    (.seq (.region false [⟨⟨.mv (.const (.int .i64 (.ofNat 5))), some 4, none⟩, []⟩])
    .ret)
    .skip))
   (.seq (.region false [⟨⟨.mv (.const (.int .i64 (.ofNat 0))), some 6, none⟩, []⟩])
   (.block 2 (.loop (.seq (.seq (.region false [⟨⟨.mv (.slot 6), some 23, none⟩, []⟩,
      ⟨⟨.mv (.slot 5), some 24, none⟩, []⟩,
      ⟨⟨.bin .lss 3 .num (.slot 23) (.slot 24), some 25, none⟩, []⟩])
    (.cond (.slot 25)
     .skip
     (.exit 2)))
    (.seq (.block 3 (.seq (.region true [⟨⟨.mv (.slot 1), some 28, none⟩, []⟩,
      ⟨⟨.mv (.slot 6), some 29, none⟩, []⟩,
      ⟨⟨.iaddr 1 (.slot 28) (.slot 29), some 30, none⟩, []⟩,
      ⟨⟨.load false 1 (.slot 30), some 31, none⟩, []⟩,
      ⟨⟨.mv (.slot 1), some 32, none⟩, []⟩,
      ⟨⟨.mv (.slot 5), some 33, none⟩, []⟩,
      ⟨⟨.iaddr 1 (.slot 32) (.slot 33), some 34, none⟩, []⟩,
      ⟨⟨.load false 1 (.slot 34), some 35, none⟩, []⟩,
      ⟨⟨.bin .eql 2 .num (.slot 31) (.slot 35), some 36, none⟩, []⟩])
    (.cond (.slot 36)
     (.seq (.region false [⟨⟨.mv (.const (.int .i64 (.ofNat 5))), some 4, none⟩, []⟩])
     .ret)
     .skip)))
    (.region false [⟨⟨.mv (.slot 6), some 26, none⟩, []⟩,
      ⟨⟨.bin .add 3 .num (.slot 26) (.const (.int .i64 (.ofNat 1))), some 27, none⟩, []⟩,
      ⟨⟨.mv (.slot 27), some 6, none⟩, []⟩]))))))))
   (.region false [⟨⟨.mv (.slot 5), some 14, none⟩, []⟩,
     ⟨⟨.bin .add 3 .num (.slot 14) (.const (.int .i64 (.ofNat 1))), some 15, none⟩, []⟩,
     ⟨⟨.mv (.slot 15), some 5, none⟩, []⟩]))))))
  (.seq (.seq (.region false [⟨⟨.mv (.const (.int .i64 (.ofNat 0))), some 7, none⟩, []⟩])
  (.block 4 (.loop (.seq (.seq (.region false [⟨⟨.mv (.slot 7), some 37, none⟩, []⟩,
     ⟨⟨.mv (.slot 1), some 38, none⟩, []⟩,
     ⟨⟨.len .slice (.slot 38), some 39, none⟩, []⟩,
     ⟨⟨.bin .lss 3 .num (.slot 37) (.slot 39), some 40, none⟩, []⟩])
   (.cond (.slot 40)
    .skip
    (.exit 4)))
   (.seq (.block 5 (.seq (.region false [⟨⟨.mv (.slot 0), some 43, none⟩, []⟩,
     ⟨⟨.mv (.slot 1), some 44, none⟩, []⟩,
     ⟨⟨.mv (.slot 7), some 45, none⟩, []⟩,
     ⟨⟨.iaddr 1 (.slot 44) (.slot 45), some 46, none⟩, []⟩,
     ⟨⟨.load false 1 (.slot 46), some 47, none⟩, []⟩,
     ⟨⟨.call (.const (.func 62 [] [])) [(.slot 43), (.slot 47)], some 48, none⟩, []⟩,
     ⟨⟨.mv (.slot 48), some 8, none⟩, []⟩])
   (.seq (.region true [⟨⟨.mv (.slot 0), some 49, none⟩, []⟩,
     ⟨⟨.mv (.slot 0), some 50, none⟩, []⟩,
     ⟨⟨.nilCheck (.slot 50), some 51, none⟩, []⟩,
     ⟨⟨.faddr 3 (.slot 51), some 52, none⟩, []⟩,
     ⟨⟨.load false 1 (.slot 52), some 53, none⟩, []⟩,
     ⟨⟨.mv (.slot 0), some 54, none⟩, []⟩,
     ⟨⟨.nilCheck (.slot 54), some 55, none⟩, []⟩,
     ⟨⟨.faddr 0 (.slot 55), some 56, none⟩, []⟩,
     ⟨⟨.load false 1 (.slot 56), some 57, none⟩, []⟩,
     ⟨⟨.mv (.slot 8), some 58, none⟩, []⟩,
     ⟨⟨.iaddr 2 (.slot 57) (.slot 58), some 59, none⟩, []⟩,
     ⟨⟨.faddr 1 (.slot 59), some 60, none⟩, []⟩,
     ⟨⟨.load false 1 (.slot 60), some 61, none⟩, []⟩,
     ⟨⟨.len .slice (.slot 61), some 62, none⟩, []⟩,
     ⟨⟨.bin .sub 3 .num (.slot 53) (.slot 62), some 63, none⟩, []⟩,
     ⟨⟨.nilCheck (.slot 49), some 64, none⟩, []⟩,
     ⟨⟨.faddr 3 (.slot 64), some 65, none⟩, []⟩,
     ⟨⟨.store 1 (.slot 65) (.slot 63), none, none⟩, []⟩])
   (.seq (.region false [⟨⟨.mv (.const .nils), some 9, none⟩, []⟩])
   (.seq (.region false [⟨⟨.mv (.slot 9), some 66, none⟩, []⟩,
     ⟨⟨.mv (.slot 0), some 67, none⟩, []⟩,
     ⟨⟨.nilCheck (.slot 67), some 68, none⟩, []⟩,
     ⟨⟨.faddr 0 (.slot 68), some 69, none⟩, []⟩,
     ⟨⟨.load false 1 (.slot 69), some 70, none⟩, []⟩,
     ⟨⟨.mv (.slot 8), some 71, none⟩, []⟩,
     ⟨⟨.slc 2 (.slot 70) none (some (.slot 71)) none, some 72, none⟩, []⟩,
     ⟨⟨.append 2 32 (.slot 66) (.slot 72), some 73, none⟩, []⟩,
     ⟨⟨.mv (.slot 73), some 9, none⟩, []⟩])
   (.seq (.region false [⟨⟨.mv (.slot 9), some 74, none⟩, []⟩,
     ⟨⟨.mv (.slot 0), some 75, none⟩, []⟩,
     ⟨⟨.nilCheck (.slot 75), some 76, none⟩, []⟩,
     ⟨⟨.faddr 0 (.slot 76), some 77, none⟩, []⟩,
     ⟨⟨.load false 1 (.slot 77), some 78, none⟩, []⟩,
     ⟨⟨.mv (.slot 8), some 79, none⟩, []⟩,
     ⟨⟨.bin .add 3 .num (.slot 79) (.const (.int .i64 (.ofNat 1))), some 80, none⟩, []⟩,
     ⟨⟨.slc 2 (.slot 78) (some (.slot 80)) none none, some 81, none⟩, []⟩,
     ⟨⟨.append 2 32 (.slot 74) (.slot 81), some 82, none⟩, []⟩,
     ⟨⟨.mv (.slot 82), some 9, none⟩, []⟩])
   (.region false [⟨⟨.mv (.slot 0), some 83, none⟩, []⟩,
     ⟨⟨.mv (.slot 9), some 84, none⟩, []⟩,
     ⟨⟨.nilCheck (.slot 83), some 85, none⟩, []⟩,
     ⟨⟨.faddr 0 (.slot 85), some 86, none⟩, []⟩,
     ⟨⟨.store 1 (.slot 86) (.slot 84), none, none⟩, []⟩])))))))
   (.region false [⟨⟨.mv (.slot 7), some 41, none⟩, []⟩,
     ⟨⟨.bin .add 3 .num (.slot 41) (.const (.int .i64 (.ofNat 1))), some 42, none⟩, []⟩,
     ⟨⟨.mv (.slot 42), some 7, none⟩, []⟩]))))))
  (.seq (.region false [⟨⟨.mv (.const (.int .i64 (.ofNat 0))), some 4, none⟩, []⟩])
  .ret)))),
  [.tmp 4]⟩
theorem xf48_ok : compFunc Try.prog Try.f48 = some xf48 := by kernel_rfl
/-- (*threshing/threshingref06.Checker).Follows -/
def xf49 : XFunc := ⟨(.seq (.region false [⟨⟨.mv (.const (.int .i64 (.ofNat 0))), some 6, none⟩, []⟩])
  (.seq (.seq (.region false [⟨⟨.mv (.slot 1), some 13, none⟩, []⟩,
    ⟨⟨.call (.const (.func 63 [] [])) [(.slot 13)], some 14, none⟩, []⟩])
  (.cond (.slot 14)
   (.seq (.region false [⟨⟨.mv (.const (.int .i64 (.ofNat 0))), some 6, none⟩, []⟩])
   .ret)
   .skip))
  (.seq (.region false [⟨⟨.mv (.const .nils), some 7, none⟩, []⟩])
  (.seq (.seq (.region false [⟨⟨.mv (.const (.int .i64 (.ofNat 0))), some 8, none⟩, []⟩])
  (.block 0 (.loop (.seq (.seq (.region false [⟨⟨.mv (.slot 8), some 15, none⟩, []⟩,
     ⟨⟨.mv (.slot 1), some 16, none⟩, []⟩,
     ⟨⟨.len .slice (.slot 16), some 17, none⟩, []⟩,
     ⟨⟨.bin .lss 3 .num (.slot 15) (.slot 17), some 18, none⟩, []⟩])
   (.cond (.slot 18)
    .skip
    (.exit 0)))
   (.seq (.block 1 (.region false [⟨⟨.mv (.slot 7), some 21, none⟩, []⟩,
     ⟨⟨.mv (.slot 1), some 22, none⟩, []⟩,
     ⟨⟨.mv (.slot 8), some 23, none⟩, []⟩,
     ⟨⟨.iaddr 1 (.slot 22) (.slot 23), some 24, none⟩, []⟩,
     ⟨⟨.load false 1 (.slot 24), some 25, none⟩, []⟩,
     ⟨⟨.un .neg (.slot 25), some 26, none⟩, []⟩,
     ⟨⟨.bslice 1 [(.int .i32 (.ofNat 0))] [(0, 1, (.slot 26))] 1, some 27, none⟩, []⟩,
     ⟨⟨.append 1 4 (.slot 21) (.slot 27), some 28, none⟩, []⟩,
     ⟨⟨.mv (.slot 28), some 7, none⟩, []⟩]))
   (.region false [⟨⟨.mv (.slot 8), some 19, none⟩, []⟩,
     ⟨⟨.bin .add 3 .num (.slot 19) (.const (.int .i64 (.ofNat 1))), some 20, none⟩, []⟩,
     ⟨⟨.mv (.slot 20), some 8, none⟩, []⟩]))))))
  (.seq (.region false [⟨⟨.mv (.slot 2), some 29, none⟩, []⟩,
    ⟨⟨.call (.const (.func 64 [] [])) [(.slot 29)], some 30, none⟩, []⟩,
    ⟨⟨.mv (.slot 30), some 9, none⟩, []⟩])
  (.seq (.region false [⟨⟨.mv (.slot 0), some 32, none⟩, []⟩,
    ⟨⟨.mv (.slot 7), some 33, none⟩, []⟩,
    ⟨⟨.mv (.slot 2), some 34, none⟩, []⟩,
    ⟨⟨.mv (.slot 9), some 35, none⟩, []⟩,
    ⟨⟨.slc 1 (.slot 34) none (some (.slot 35)) none, some 36, none⟩, []⟩,
    ⟨⟨.call (.const (.func 65 [] [])) [(.slot 32), (.slot 33), (.slot 36)], some 37, none⟩, []⟩,
    ⟨⟨.mv (.slot 37), some 31, none⟩, []⟩,
    ⟨⟨.extract (.slot 31) 0, some 38, none⟩, []⟩,
    ⟨⟨.extract (.slot 31) 1, some 39, none⟩, []⟩,
    ⟨⟨.extract (.slot 31) 2, some 40, none⟩, []⟩,
    ⟨⟨.mv (.slot 38), some 10, none⟩, []⟩,
    ⟨⟨.mv (.slot 39), some 11, none⟩, []⟩,
    ⟨⟨.mv (.slot 40), some 12, none⟩, []⟩])
  (.seq (.block 2 (.seq (.region false [⟨⟨.mv (.slot 12), some 42, none⟩, []⟩,
    ⟨⟨.mv (.slot 42), some 41, none⟩, []⟩])
  (.cond (.slot 41)
   (.seq (.region false [⟨⟨.mv (.const (.int .i64 (.ofNat 60))), some 6, none⟩, []⟩])
   .ret)
   (.seq (.region false [⟨⟨.mv (.slot 11), some 44, none⟩, []⟩,
     ⟨⟨.mv (.slot 44), some 43, none⟩, []⟩])
   (.cond (.slot 43)
    (.seq (.region false [⟨⟨.mv (.const (.int .i64 (.ofNat 0))), some 6, none⟩, []⟩])
    .ret)
    (.seq (.region false [⟨⟨.mv (.slot 1), some 46, none⟩, []⟩,
      ⟨⟨.len .slice (.slot 46), some 47, none⟩, []⟩,
      ⟨⟨.bin .eql 3 .num (.slot 47) (.const (.int .i64 (.ofNat 0))), some 48, none⟩, []⟩,
      ⟨⟨.mv (.slot 48), some 49, none⟩, []⟩,
      ⟨⟨.mv (.slot 9), some 50, some (49, true)⟩, []⟩,
      ⟨⟨.mv (.slot 2), some 51, some (49, true)⟩, []⟩,
      ⟨⟨.len .slice (.slot 51), some 52, some (49, true)⟩, []⟩,
      ⟨⟨.bin .eql 3 .num (.slot 50) (.slot 52), some 53, some (49, true)⟩, []⟩,
      ⟨⟨.pick (.slot 49) (.slot 53) (.const (.bool false)), some 54, none⟩, []⟩,
      ⟨⟨.mv (.slot 54), some 45, none⟩, []⟩])
    (.cond (.slot 45)
     (.seq (.region false [⟨⟨.mv (.const (.int .i64 (.ofNat 61))), some 6, none⟩, []⟩])
     .ret)
     .skip)))))))
  (.seq (.region false [⟨⟨.mv (.slot 0), some 55, none⟩, []⟩,
    ⟨⟨.mv (.slot 1), some 56, none⟩, []⟩,
    ⟨⟨.mv (.slot 10), some 57, none⟩, []⟩,
    ⟨⟨.mv (.slot 2), some 58, none⟩, []⟩,
    ⟨⟨.mv (.slot 9), some 59, none⟩, []⟩,
    ⟨⟨.slc 1 (.slot 58) (some (.slot 59)) none none, some 60, none⟩, []⟩,
    ⟨⟨.call (.const (.func 66 [] [])) [(.slot 55), (.slot 56), (.slot 57), (.slot 60)], some 61, none⟩, []⟩,
    ⟨⟨.mv (.slot 61), some 6, none⟩, []⟩])
  .ret)))))))),
  [.tmp 6]⟩
theorem xf49_ok : compFunc Try.prog Try.f49 = some xf49 := by kernel_rfl
/-- threshing/cnf.Var -/
def xf50 : XFunc := ⟨(.seq (.region false [⟨⟨.mv (.const (.int .i64 (.ofNat 0))), some 2, none⟩, []⟩])
  (.seq (.region false [⟨⟨.mv (.slot 0), some 3, none⟩, []⟩,
    ⟨⟨.call (.const (.func 67 [] [])) [(.slot 3)], some 4, none⟩, []⟩,
    ⟨⟨.mv (.slot 4), some 2, none⟩, []⟩])
  .ret)),
  [.tmp 2]⟩
theorem xf50_ok : compFunc Try.prog Try.f50 = some xf50 := by kernel_rfl
/-- threshing/cnf.Normal -/
def xf51 : XFunc := ⟨(.seq (.region false [⟨⟨.mv (.const .nils), some 2, none⟩, []⟩,
    ⟨⟨.mv (.const (.bool false)), some 3, none⟩, []⟩])
  (.seq (.region false [⟨⟨.mv (.slot 0), some 7, none⟩, []⟩,
    ⟨⟨.call (.const (.func 44 [] [])) [(.slot 7)], some 8, none⟩, []⟩,
    ⟨⟨.mv (.slot 8), some 4, none⟩, []⟩])
  (.seq (.region false [⟨⟨.mv (.slot 4), some 9, none⟩, []⟩,
    ⟨⟨.call (.const (.func 68 [] [])) [(.slot 9), (.const (.func 69 [] []))], some 10, none⟩, []⟩])
  (.seq (.region false [⟨⟨.mv (.slot 4), some 11, none⟩, []⟩,
    ⟨⟨.call (.const (.func 70 [] [])) [(.slot 11)], some 12, none⟩, []⟩,
    ⟨⟨.mv (.slot 12), some 4, none⟩, []⟩])
  (.seq (.region false [⟨⟨.mv (.const (.bool false)), some 5, none⟩, []⟩])
  (.seq (.seq (.region false [⟨⟨.mv (.slot 4), some 13, none⟩, []⟩,
    ⟨⟨.len .slice (.slot 13), some 14, none⟩, []⟩,
    ⟨⟨.mv (.const (.int .i64 (.ofNat 0))), some 15, none⟩, []⟩])
  (.block 0 (.loop (.seq (.region false [⟨⟨.bin .lss 3 .num (.slot 15) (.slot 14), some 16, none⟩, []⟩])
   (.seq (.cond (.slot 16)
    .skip
    (.exit 0))
   (.seq (.block 1 (.seq (.region false [⟨⟨.mv (.slot 15), some 17, none⟩, []⟩,
     ⟨⟨.mv (.slot 17), some 6, none⟩, []⟩])
   (.region true [⟨⟨.mv (.slot 5), some 18, none⟩, []⟩,
     ⟨⟨.mv (.slot 18), some 19, none⟩, []⟩,
     ⟨⟨.mv (.slot 6), some 20, some (19, false)⟩, []⟩,
     ⟨⟨.bin .gtr 3 .num (.slot 20) (.const (.int .i64 (.ofNat 0))), some 21, some (19, false)⟩, []⟩,
     ⟨⟨.mv (.slot 21), some 22, some (19, false)⟩, []⟩,
     ⟨⟨.mv (.slot 4), some 23, some (22, true)⟩, []⟩,
     ⟨⟨.mv (.slot 6), some 24, some (22, true)⟩, []⟩,
     ⟨⟨.iaddr 1 (.slot 23) (.slot 24), some 25, some (22, true)⟩, []⟩,
     ⟨⟨.load false 1 (.slot 25), some 26, some (22, true)⟩, []⟩,
     ⟨⟨.bin .gtr 55 .num (.slot 26) (.const (.int .i32 (.ofNat 0))), some 27, some (22, true)⟩, []⟩,
     ⟨⟨.pick (.slot 22) (.slot 27) (.const (.bool false)), some 28, some (19, false)⟩, []⟩,
     ⟨⟨.mv (.slot 28), some 29, some (19, false)⟩, []⟩,
     ⟨⟨.mv (.slot 4), some 30, some (29, true)⟩, []⟩,
     ⟨⟨.mv (.slot 6), some 31, some (29, true)⟩, []⟩,
     ⟨⟨.iaddr 1 (.slot 30) (.slot 31), some 32, some (29, true)⟩, []⟩,
     ⟨⟨.load false 1 (.slot 32), some 33, some (29, true)⟩, []⟩,
     ⟨⟨.mv (.slot 4), some 34, some (29, true)⟩, []⟩,
     ⟨⟨.mv (.slot 6), some 35, some (29, true)⟩, []⟩,
     ⟨⟨.bin .sub 3 .num (.slot 35) (.const (.int .i64 (.ofNat 1))), some 36, some (29, true)⟩, []⟩,
     ⟨⟨.iaddr 1 (.slot 34) (.slot 36), some 37, some (29, true)⟩, []⟩,
     ⟨⟨.load false 1 (.slot 37), some 38, some (29, true)⟩, []⟩,
     ⟨⟨.un .neg (.slot 38), some 39, some (29, true)⟩, []⟩,
     ⟨⟨.bin .eql 55 .num (.slot 33) (.slot 39), some 40, some (29, true)⟩, []⟩,
     ⟨⟨.pick (.slot 29) (.slot 40) (.const (.bool false)), some 41, some (19, false)⟩, []⟩,
     ⟨⟨.pick (.slot 19) (.const (.bool true)) (.slot 41), some 42, none⟩, []⟩,
     ⟨⟨.mv (.slot 42), some 5, none⟩, []⟩])))
   (.region false [⟨⟨.bin .add 3 .num (.slot 15) (.const (.int .i64 (.ofNat 1))), some 43, none⟩, []⟩,
     ⟨⟨.mv (.slot 43), some 15, none⟩, []⟩])))))))
  (.seq (.region false [⟨⟨.mv (.slot 4), some 44, none⟩, []⟩,
    ⟨⟨.call (.const (.func 71 [] [])) [(.slot 44)], some 45, none⟩, []⟩,
    ⟨⟨.mv (.slot 5), some 46, none⟩, []⟩,
    ⟨⟨.mv (.slot 45), some 2, none⟩, []⟩,
    ⟨⟨.mv (.slot 46), some 3, none⟩, []⟩])
  .ret))))))),
  [.tmp 2, .tmp 3]⟩
theorem xf51_ok : compFunc Try.prog Try.f51 = some xf51 := by kernel_rfl
/-- (*threshing/check.Checker).follows$1 -/
def xf52 : XFunc := ⟨(.region false [⟨⟨.load false 1 (.slot 0), some 1, none⟩, []⟩,
    ⟨⟨.call (.const (.func 53 [] [])) [(.slot 1), (.const (.int .i64 (.ofNat 0)))], some 2, none⟩, []⟩]),
  []⟩
theorem xf52_ok : compFunc Try.prog Try.f52 = some xf52 := by kernel_rfl
/-- (*threshing/check.Checker).back -/
def xf53 : XFunc := ⟨(.seq (.seq (.region false [⟨⟨.mv (.slot 0), some 6, none⟩, []⟩,
    ⟨⟨.nilCheck (.slot 6), some 7, none⟩, []⟩,
    ⟨⟨.faddr 5 (.slot 7), some 8, none⟩, []⟩,
    ⟨⟨.load false 1 (.slot 8), some 9, none⟩, []⟩,
    ⟨⟨.mv (.slot 1), some 10, none⟩, []⟩,
    ⟨⟨.slc 1 (.slot 9) (some (.slot 10)) none none, some 11, none⟩, []⟩,
    ⟨⟨.len .slice (.slot 11), some 12, none⟩, []⟩,
    ⟨⟨.mv (.const (.int .i64 (.ofNat 0))), some 13, none⟩, []⟩])
  (.block 0 (.loop (.seq (.region false [⟨⟨.bin .lss 3 .num (.slot 13) (.slot 12), some 14, none⟩, []⟩])
   (.seq (.cond (.slot 14)
    .skip
    (.exit 0))
   (.seq (.block 1 (.seq (.region false [⟨⟨.iaddr 1 (.slot 11) (.slot 13), some 15, none⟩, []⟩,
     ⟨⟨.load false 1 (.slot 15), some 16, none⟩, []⟩,
     ⟨⟨.mv (.slot 16), some 5, none⟩, []⟩])
   (.region true [⟨⟨.mv (.slot 0), some 17, none⟩, []⟩,
     ⟨⟨.nilCheck (.slot 17), some 18, none⟩, []⟩,
     ⟨⟨.faddr 4 (.slot 18), some 19, none⟩, []⟩,
     ⟨⟨.load false 1 (.slot 19), some 20, none⟩, []⟩,
     ⟨⟨.mv (.slot 5), some 21, none⟩, []⟩,
     ⟨⟨.call (.const (.func 50 [] [])) [(.slot 21)], some 22, none⟩, [⟨.load false 1 (.slot 19), some 20, none⟩]⟩,
     ⟨⟨.iaddr 1 (.slot 20) (.slot 22), some 23, none⟩, []⟩,
     ⟨⟨.store 1 (.slot 23) (.const (.int .i8 (.ofNat 0))), none, none⟩, []⟩])))
   (.region false [⟨⟨.bin .add 3 .num (.slot 13) (.const (.int .i64 (.ofNat 1))), some 24, none⟩, []⟩,
     ⟨⟨.mv (.slot 24), some 13, none⟩, []⟩])))))))
  (.region false [⟨⟨.mv (.slot 0), some 25, none⟩, []⟩,
    ⟨⟨.mv (.slot 0), some 26, none⟩, []⟩,
    ⟨⟨.nilCheck (.slot 26), some 27, none⟩, []⟩,
    ⟨⟨.faddr 5 (.slot 27), some 28, none⟩, []⟩,
    ⟨⟨.load false 1 (.slot 28), some 29, none⟩, []⟩,
    ⟨⟨.mv (.slot 1), some 30, none⟩, []⟩,
    ⟨⟨.slc 1 (.slot 29) none (some (.slot 30)) none, some 31, none⟩, []⟩,
    ⟨⟨.nilCheck (.slot 25), some 32, none⟩, []⟩,
    ⟨⟨.faddr 5 (.slot 32), some 33, none⟩, []⟩,
    ⟨⟨.store 1 (.slot 33) (.slot 31), none, none⟩, []⟩])),
  []⟩
theorem xf53_ok : compFunc Try.prog Try.f53 = some xf53 := by kernel_rfl
/-- (*threshing/check.Checker).set -/
def xf54 : XFunc := ⟨(.seq (.region false [⟨⟨.mv (.slot 1), some 5, none⟩, []⟩,
    ⟨⟨.call (.const (.func 50 [] [])) [(.slot 5)], some 6, none⟩, []⟩,
    ⟨⟨.mv (.slot 6), some 4, none⟩, []⟩])
  (.seq (.seq (.region false [⟨⟨.mv (.slot 4), some 7, none⟩, []⟩,
    ⟨⟨.mv (.slot 0), some 8, none⟩, []⟩,
    ⟨⟨.nilCheck (.slot 8), some 9, none⟩, []⟩,
    ⟨⟨.faddr 4 (.slot 9), some 10, none⟩, []⟩,
    ⟨⟨.load false 1 (.slot 10), some 11, none⟩, []⟩,
    ⟨⟨.len .slice (.slot 11), some 12, none⟩, []⟩,
    ⟨⟨.bin .geq 3 .num (.slot 7) (.slot 12), some 13, none⟩, []⟩])
  (.cond (.slot 13)
   (.region true [⟨⟨.mv (.slot 0), some 14, none⟩, []⟩,
     ⟨⟨.mv (.slot 0), some 15, none⟩, []⟩,
     ⟨⟨.nilCheck (.slot 15), some 16, none⟩, []⟩,
     ⟨⟨.faddr 4 (.slot 16), some 17, none⟩, []⟩,
     ⟨⟨.load false 1 (.slot 17), some 18, none⟩, []⟩,
     ⟨⟨.mv (.slot 4), some 19, none⟩, []⟩,
     ⟨⟨.bin .add 3 .num (.slot 19) (.const (.int .i64 (.ofNat 1))), some 20, none⟩, []⟩,
     ⟨⟨.mv (.slot 0), some 21, none⟩, []⟩,
     ⟨⟨.nilCheck (.slot 21), some 22, none⟩, []⟩,
     ⟨⟨.faddr 4 (.slot 22), some 23, none⟩, []⟩,
     ⟨⟨.load false 1 (.slot 23), some 24, none⟩, []⟩,
     ⟨⟨.len .slice (.slot 24), some 25, none⟩, []⟩,
     ⟨⟨.bin .sub 3 .num (.slot 20) (.slot 25), some 26, none⟩, []⟩,
     ⟨⟨.appendZ 1 1 [(.int .i8 (.ofNat 0))] (.slot 18) (.slot 26), some 27, none⟩, []⟩,
     ⟨⟨.nilCheck (.slot 14), some 28, none⟩, []⟩,
     ⟨⟨.faddr 4 (.slot 28), some 29, none⟩, []⟩,
     ⟨⟨.store 1 (.slot 29) (.slot 27), none, none⟩, []⟩])
   .skip))
  (.seq (.region false [⟨⟨.mv (.slot 0), some 30, none⟩, []⟩,
    ⟨⟨.nilCheck (.slot 30), some 31, none⟩, []⟩,
    ⟨⟨.faddr 4 (.slot 31), some 32, none⟩, []⟩,
    ⟨⟨.load false 1 (.slot 32), some 33, none⟩, []⟩,
    ⟨⟨.mv (.slot 4), some 34, none⟩, []⟩,
    ⟨⟨.iaddr 1 (.slot 33) (.slot 34), some 35, none⟩, []⟩,
    ⟨⟨.store 1 (.slot 35) (.const (.int .i8 (.ofNat 1))), none, none⟩, []⟩])
  (.seq (.seq (.region false [⟨⟨.mv (.slot 1), some 36, none⟩, []⟩,
    ⟨⟨.bin .lss 55 .num (.slot 36) (.const (.int .i32 (.ofNat 0))), some 37, none⟩, []⟩])
  (.cond (.slot 37)
   (.region false [⟨⟨.mv (.slot 0), some 38, none⟩, []⟩,
     ⟨⟨.nilCheck (.slot 38), some 39, none⟩, []⟩,
     ⟨⟨.faddr 4 (.slot 39), some 40, none⟩, []⟩,
     ⟨⟨.load false 1 (.slot 40), some 41, none⟩, []⟩,
     ⟨⟨.mv (.slot 4), some 42, none⟩, []⟩,
     ⟨⟨.iaddr 1 (.slot 41) (.slot 42), some 43, none⟩, []⟩,
     ⟨⟨.store 1 (.slot 43) (.const (.int .i8 (.negSucc 0))), none, none⟩, []⟩])
   .skip))
  (.region false [⟨⟨.mv (.slot 0), some 44, none⟩, []⟩,
    ⟨⟨.mv (.slot 0), some 45, none⟩, []⟩,
    ⟨⟨.nilCheck (.slot 45), some 46, none⟩, []⟩,
    ⟨⟨.faddr 5 (.slot 46), some 47, none⟩, []⟩,
    ⟨⟨.load false 1 (.slot 47), some 48, none⟩, []⟩,
    ⟨⟨.mv (.slot 1), some 49, none⟩, []⟩,
    ⟨⟨.bslice 1 [(.int .i32 (.ofNat 0))] [(0, 1, (.slot 49))] 1, some 50, none⟩, []⟩,
    ⟨⟨.append 1 4 (.slot 48) (.slot 50), some 51, none⟩, []⟩,
    ⟨⟨.nilCheck (.slot 44), some 52, none⟩, []⟩,
    ⟨⟨.faddr 5 (.slot 52), some 53, none⟩, []⟩,
    ⟨⟨.store 1 (.slot 53) (.slot 51), none, none⟩, []⟩]))))),
  []⟩
theorem xf54_ok : compFunc Try.prog Try.f54 = some xf54 := by kernel_rfl
/-- threshing/check.head -/
def xf55 : XFunc := ⟨(.seq (.region false [⟨⟨.mv (.const .nils), some 2, none⟩, []⟩,
    ⟨⟨.mv (.const .nils), some 3, none⟩, []⟩])
  (.seq (.region false [⟨⟨.mv (.slot 0), some 5, none⟩, []⟩,
    ⟨⟨.call (.const (.func 72 [] [])) [(.slot 5), (.const (.func 73 [] []))], some 6, none⟩, []⟩,
    ⟨⟨.mv (.slot 6), some 4, none⟩, []⟩])
  (.seq (.seq (.region false [⟨⟨.mv (.slot 4), some 7, none⟩, []⟩,
    ⟨⟨.bin .lss 3 .num (.slot 7) (.const (.int .i64 (.ofNat 0))), some 8, none⟩, []⟩])
  (.cond (.slot 8)
   (.region false [⟨⟨.mv (.slot 0), some 9, none⟩, []⟩,
     ⟨⟨.len .slice (.slot 9), some 10, none⟩, []⟩,
     ⟨⟨.mv (.slot 10), some 4, none⟩, []⟩])
   .skip))
  (.seq (.region true [⟨⟨.mv (.slot 0), some 11, none⟩, []⟩,
    ⟨⟨.mv (.slot 4), some 12, none⟩, []⟩,
    ⟨⟨.slc 1 (.slot 11) none (some (.slot 12)) none, some 13, none⟩, []⟩,
    ⟨⟨.mv (.slot 0), some 14, none⟩, []⟩,
    ⟨⟨.mv (.slot 4), some 15, none⟩, []⟩,
    ⟨⟨.slc 1 (.slot 14) (some (.slot 15)) none none, some 16, none⟩, []⟩,
    ⟨⟨.mv (.slot 13), some 2, none⟩, []⟩,
    ⟨⟨.mv (.slot 16), some 3, none⟩, []⟩])
  .ret)))),
  [.tmp 2, .tmp 3]⟩
theorem xf55_ok : compFunc Try.prog Try.f55 = some xf55 := by kernel_rfl
/-- (*threshing/check.Checker).through -/
def xf56 : XFunc := ⟨(.seq (.region false [⟨⟨.box (.slot 0), some 2, none⟩, []⟩,
    ⟨⟨.mv (.const (.int .i64 (.ofNat 0))), some 4, none⟩, []⟩])
  (.seq (.region false [⟨⟨.mkfunc 74 [] [(.slot 2)], some 9, none⟩, []⟩,
    ⟨⟨.mv (.slot 9), some 5, none⟩, []⟩])
  (.seq (.seq (.region false [⟨⟨.mv (.slot 1), some 10, none⟩, []⟩,
    ⟨⟨.len .slice (.slot 10), some 11, none⟩, []⟩,
    ⟨⟨.mv (.const (.int .i64 (.ofNat 0))), some 12, none⟩, []⟩])
  (.block 0 (.loop (.seq (.region false [⟨⟨.bin .lss 3 .num (.slot 12) (.slot 11), some 13, none⟩, []⟩])
   (.seq (.cond (.slot 13)
    .skip
    (.exit 0))
   (.seq (.block 1 (.seq (.region false [⟨⟨.iaddr 1 (.slot 10) (.slot 12), some 14, none⟩, []⟩,
     ⟨⟨.load false 1 (.slot 14), some 15, none⟩, []⟩,
     ⟨⟨.mv (.slot 15), some 7, none⟩, []⟩])
   (.seq (.region false [⟨⟨.mv (.slot 5), some 16, none⟩, []⟩,
     ⟨⟨.mv (.slot 7), some 17, none⟩, []⟩,
     ⟨⟨.call (.slot 16) [(.slot 17)], some 18, none⟩, []⟩,
     ⟨⟨.mv (.slot 18), some 8, none⟩, []⟩])
   (.seq (.region false [⟨⟨.mv (.slot 8), some 19, none⟩, []⟩,
     ⟨⟨.bin .neq 93 .num (.slot 19) (.const (.int .i64 (.ofNat 0))), some 20, none⟩, []⟩])
   (.cond (.slot 20)
    (.seq (.region false [⟨⟨.mv (.slot 8), some 21, none⟩, []⟩,
      ⟨⟨.mv (.slot 21), some 4, none⟩, []⟩])
    .ret)
    .skip)))))
   (.region false [⟨⟨.bin .add 3 .num (.slot 12) (.const (.int .i64 (.ofNat 1))), some 22, none⟩, []⟩,
     ⟨⟨.mv (.slot 22), some 12, none⟩, []⟩])))))))
  (.seq (.region false [⟨⟨.mv (.const (.int .i64 (.ofNat 0))), some 4, none⟩, []⟩])
  .ret)))),
  [.tmp 4]⟩
theorem xf56_ok : compFunc Try.prog Try.f56 = some xf56 := by kernel_rfl
/-- (*threshing/check.Checker).groups -/
def xf57 : XFunc := ⟨(.seq (.region false [⟨⟨.mv (.const (.int .i64 (.ofNat 0))), some 6, none⟩, []⟩])
  (.seq (.region false [⟨⟨.mkmap .i64, some 17, none⟩, []⟩,
    ⟨⟨.mv (.slot 17), some 7, none⟩, []⟩])
  (.seq (.region false [⟨⟨.mv (.const (.int .i64 (.ofNat 0))), some 8, none⟩, []⟩])
  (.seq (.block 0 (.loop (.seq (.seq (.region false [⟨⟨.mv (.slot 2), some 18, none⟩, []⟩,
     ⟨⟨.len .slice (.slot 18), some 19, none⟩, []⟩,
     ⟨⟨.bin .gtr 3 .num (.slot 19) (.const (.int .i64 (.ofNat 0))), some 20, none⟩, []⟩])
   (.cond (.slot 20)
    .skip
    (.exit 0)))
   (.block 1 (.seq (.region false [⟨⟨.mv (.slot 2), some 21, none⟩, []⟩,
     ⟨⟨.iaddr 1 (.slot 21) (.const (.int .i64 (.ofNat 0))), some 22, none⟩, []⟩,
     ⟨⟨.load false 1 (.slot 22), some 23, none⟩, []⟩,
     ⟨⟨.un .neg (.slot 23), some 24, none⟩, []⟩,
     ⟨⟨.mv (.slot 24), some 9, none⟩, []⟩])
   (.seq (.region false [⟨⟨.mv (.slot 2), some 26, none⟩, []⟩,
     ⟨⟨.slc 1 (.slot 26) (some (.const (.int .i64 (.ofNat 1)))) none none, some 27, none⟩, []⟩,
     ⟨⟨.call (.const (.func 55 [] [])) [(.slot 27)], some 28, none⟩, []⟩,
     ⟨⟨.mv (.slot 28), some 25, none⟩, []⟩,
     ⟨⟨.extract (.slot 25) 0, some 29, none⟩, []⟩,
     ⟨⟨.extract (.slot 25) 1, some 30, none⟩, []⟩,
     ⟨⟨.mv (.slot 29), some 10, none⟩, []⟩,
     ⟨⟨.mv (.slot 30), some 11, none⟩, []⟩])
   (.seq (.region false [⟨⟨.mv (.slot 0), some 32, none⟩, []⟩,
     ⟨⟨.nilCheck (.slot 32), some 33, none⟩, []⟩,
     ⟨⟨.faddr 0 (.slot 33), some 34, none⟩, []⟩,
     ⟨⟨.load false 1 (.slot 34), some 35, none⟩, []⟩,
     ⟨⟨.mv (.slot 9), some 36, none⟩, []⟩,
     ⟨⟨.lookup .i64 .nilp (.slot 35) (.slot 36) true, some 37, none⟩, []⟩,
     ⟨⟨.mv (.slot 37), some 31, none⟩, []⟩,
     ⟨⟨.extract (.slot 31) 0, some 38, none⟩, []⟩,
     ⟨⟨.extract (.slot 31) 1, some 39, none⟩, []⟩,
     ⟨⟨.mv (.slot 38), some 12, none⟩, []⟩,
     ⟨⟨.mv (.slot 39), some 13, none⟩, []⟩])
   (.seq (.seq (.region false [⟨⟨.mv (.slot 13), some 40, none⟩, []⟩,
     ⟨⟨.un .not (.slot 40), some 41, none⟩, []⟩,
     ⟨⟨.mv (.slot 41), some 42, none⟩, []⟩,
     ⟨⟨.mv (.slot 12), some 43, some (42, false)⟩, []⟩,
     ⟨⟨.nilCheck (.slot 43), some 44, some (42, false)⟩, []⟩,
     ⟨⟨.faddr 1 (.slot 44), some 45, some (42, false)⟩, []⟩,
     ⟨⟨.load false 1 (.slot 45), some 46, some (42, false)⟩, []⟩,
     ⟨⟨.mv (.slot 1), some 47, some (42, false)⟩, []⟩,
     ⟨⟨.un .neg (.slot 47), some 48, some (42, false)⟩, []⟩,
     ⟨⟨.call (.const (.func 76 [] [])) [(.slot 46), (.slot 48)], some 49, some (42, false)⟩, []⟩,
     ⟨⟨.un .not (.slot 49), some 50, some (42, false)⟩, []⟩,
     ⟨⟨.pick (.slot 42) (.const (.bool true)) (.slot 50), some 51, none⟩, []⟩,
     ⟨⟨.mv (.slot 51), some 52, none⟩, []⟩,
     ⟨⟨.mv (.slot 9), some 53, some (52, false)⟩, []⟩,
     ⟨⟨.mv (.slot 8), some 54, some (52, false)⟩, []⟩,
     ⟨⟨.bin .leq 2 .num (.slot 53) (.slot 54), some 55, some (52, false)⟩, []⟩,
     ⟨⟨.pick (.slot 52) (.const (.bool true)) (.slot 55), some 56, none⟩, []⟩])
   (.cond (.slot 56)
    (.seq (.region false [⟨⟨.mv (.const (.int .i64 (.ofNat 60))), some 6, none⟩, []⟩])
    .ret)
    .skip))
   (.seq (.seq (.region false [⟨⟨.mv (.slot 0), some 57, none⟩, []⟩,
     ⟨⟨.mv (.slot 12), some 58, none⟩, []⟩,
     ⟨⟨.mv (.slot 1), some 59, none⟩, []⟩,
     ⟨⟨.mv (.slot 10), some 60, none⟩, []⟩,
     ⟨⟨.call (.const (.func 77 [] [])) [(.slot 57), (.slot 58), (.slot 59), (.slot 60)], some 61, none⟩, []⟩,
     ⟨⟨.mv (.slot 61), some 14, none⟩, []⟩])
   (.seq (.region false [⟨⟨.mv (.slot 14), some 62, none⟩, []⟩,
     ⟨⟨.bin .neq 28 .num (.slot 62) (.const (.int .i64 (.ofNat 0))), some 63, none⟩, []⟩])
   (.cond (.slot 63)
    (.seq (.region false [⟨⟨.mv (.slot 14), some 64, none⟩, []⟩,
      ⟨⟨.mv (.slot 64), some 6, none⟩, []⟩])
    .ret)
    .skip)))
   (.region false [⟨⟨.mv (.slot 7), some 65, none⟩, []⟩,
     ⟨⟨.mv (.slot 9), some 66, none⟩, []⟩,
     ⟨⟨.mv (.slot 9), some 67, none⟩, []⟩,
     ⟨⟨.mv (.slot 11), some 68, none⟩, []⟩,
     ⟨⟨.mapup .i64 (.slot 65) (.slot 66) (.const (.bool true)), none, none⟩, []⟩,
     ⟨⟨.mv (.slot 67), some 8, none⟩, []⟩,
     ⟨⟨.mv (.slot 68), some 2, none⟩, []⟩]))))))))))
  (.seq (.seq (.region false [⟨⟨.mv (.slot 0), some 69, none⟩, []⟩,
    ⟨⟨.nilCheck (.slot 69), some 70, none⟩, []⟩,
    ⟨⟨.faddr 0 (.slot 70), some 71, none⟩, []⟩,
    ⟨⟨.load false 1 (.slot 71), some 72, none⟩, []⟩,
    ⟨⟨.range .i64 (.slot 72), some 73, none⟩, []⟩])
  (.block 2 (.loop (.seq (.region false [⟨⟨.next (.slot 73), some 74, none⟩, []⟩,
     ⟨⟨.extract (.slot 74) 0, some 75, none⟩, []⟩])
   (.seq (.cond (.slot 75)
    .skip
    (.exit 2))
   (.block 3 (.seq (.region false [⟨⟨.entry (.slot 73), some 76, none⟩, []⟩,
     ⟨⟨.extract (.slot 76) 0, some 77, none⟩, []⟩,
     ⟨⟨.extract (.slot 76) 1, some 78, none⟩, []⟩,
     ⟨⟨.mv (.slot 77), some 15, none⟩, []⟩,
     ⟨⟨.mv (.slot 78), some 16, none⟩, []⟩])
   (.seq (.region false [⟨⟨.mv (.slot 7), some 79, none⟩, []⟩,
     ⟨⟨.mv (.slot 15), some 80, none⟩, []⟩,
     ⟨⟨.lookup .i64 (.bool false) (.slot 79) (.slot 80) false, some 81, none⟩, []⟩,
     ⟨⟨.un .not (.slot 81), some 82, none⟩, []⟩,
     ⟨⟨.mv (.slot 82), some 83, none⟩, []⟩,
     ⟨⟨.mv (.slot 16), some 84, some (83, true)⟩, []⟩,
     ⟨⟨.nilCheck (.slot 84), some 85, some (83, true)⟩, []⟩,
     ⟨⟨.faddr 1 (.slot 85), some 86, some (83, true)⟩, []⟩,
     ⟨⟨.load false 1 (.slot 86), some 87, some (83, true)⟩, []⟩,
     ⟨⟨.mv (.slot 1), some 88, some (83, true)⟩, []⟩,
     ⟨⟨.un .neg (.slot 88), some 89, some (83, true)⟩, []⟩,
     ⟨⟨.call (.const (.func 76 [] [])) [(.slot 87), (.slot 89)], some 90, some (83, true)⟩, []⟩,
     ⟨⟨.pick (.slot 83) (.slot 90) (.const (.bool false)), some 91, none⟩, []⟩])
   (.cond (.slot 91)
    (.seq (.region false [⟨⟨.mv (.const (.int .i64 (.ofNat 61))), some 6, none⟩, []⟩])
    .ret)
    .skip)))))))))
  (.seq (.region false [⟨⟨.mv (.const (.int .i64 (.ofNat 0))), some 6, none⟩, []⟩])
  .ret)))))),
  [.tmp 6]⟩
theorem xf57_ok : compFunc Try.prog Try.f57 = some xf57 := by kernel_rfl
/-- slices.Collect[int64] -/
def xf58 : XFunc := ⟨(.seq (.region false [⟨⟨.mv (.const .nils), some 2, none⟩, []⟩])
  (.seq (.region false [⟨⟨.mv (.slot 0), some 3, none⟩, []⟩,
    ⟨⟨.call (.const (.func 78 [] [])) [(.const .nils), (.slot 3)], some 4, none⟩, []⟩,
    ⟨⟨.mv (.slot 4), some 2, none⟩, []⟩])
  .ret)),
  [.tmp 2]⟩
theorem xf58_ok : compFunc Try.prog Try.f58 = some xf58 := by kernel_rfl
/-- slices.Sort[[]int64,int64] -/
def xf59 : XFunc := ⟨(.seq (.region false [⟨⟨.mv (.slot 0), some 3, none⟩, []⟩,
    ⟨⟨.len .slice (.slot 3), some 4, none⟩, []⟩,
    ⟨⟨.mv (.slot 4), some 2, none⟩, []⟩])
  (.region false [⟨⟨.mv (.slot 0), some 5, none⟩, []⟩,
    ⟨⟨.mv (.slot 2), some 6, none⟩, []⟩,
    ⟨⟨.mv (.slot 2), some 7, none⟩, []⟩,
    ⟨⟨.conv .u64 (.slot 7), some 8, none⟩, []⟩,
    ⟨⟨.call (.const (.func 80 [] [])) [(.slot 8)], some 9, none⟩, []⟩,
    ⟨⟨.call (.const (.func 79 [] [])) [(.slot 5), (.const (.int .i64 (.ofNat 0))), (.slot 6), (.slot 9)], some 10, none⟩, []⟩])),
  []⟩
theorem xf59_ok : compFunc Try.prog Try.f59 = some xf59 := by kernel_rfl
/-- maps.Keys[map[int64]*threshing/check.held,int64,*threshing/check.held]$1 -/
def xf60 : XFunc := ⟨(.seq (.region false [⟨⟨.load false 1 (.slot 1), some 4, none⟩, []⟩,
    ⟨⟨.range .i64 (.slot 4), some 5, none⟩, []⟩])
  (.block 0 (.loop (.seq (.region false [⟨⟨.next (.slot 5), some 6, none⟩, []⟩,
     ⟨⟨.extract (.slot 6) 0, some 7, none⟩, []⟩])
   (.seq (.cond (.slot 7)
    .skip
    (.exit 0))
   (.block 1 (.seq (.region false [⟨⟨.entry (.slot 5), some 8, none⟩, []⟩,
     ⟨⟨.extract (.slot 8) 0, some 9, none⟩, []⟩,
     ⟨⟨.mv (.slot 9), some 3, none⟩, []⟩])
   (.seq (.region false [⟨⟨.mv (.slot 0), some 10, none⟩, []⟩,
     ⟨⟨.mv (.slot 3), some 11, none⟩, []⟩,
     ⟨⟨.call (.slot 10) [(.slot 11)], some 12, none⟩, []⟩,
     ⟨⟨.un .not (.slot 12), some 13, none⟩, []⟩])
   (.cond (.slot 13)
    .ret
    .skip))))))))),
  []⟩
theorem xf60_ok : compFunc Try.prog Try.f60 = some xf60 := by kernel_rfl
/-- threshing/threshingref04.Lit -/
def xf61 : XFunc := ⟨(.seq (.region false [⟨⟨.mv (.const (.bool false)), some 2, none⟩, []⟩])
  (.seq (.region false [⟨⟨.mv (.slot 0), some 3, none⟩, []⟩,
    ⟨⟨.bin .neq 55 .num (.slot 3) (.const (.int .i32 (.ofNat 0))), some 4, none⟩, []⟩,
    ⟨⟨.mv (.slot 4), some 5, none⟩, []⟩,
    ⟨⟨.mv (.slot 0), some 6, some (5, true)⟩, []⟩,
    ⟨⟨.bin .geq 55 .num (.slot 6) (.const (.int .i32 (.negSucc 1048575))), some 7, some (5, true)⟩, []⟩,
    ⟨⟨.pick (.slot 5) (.slot 7) (.const (.bool false)), some 8, none⟩, []⟩,
    ⟨⟨.mv (.slot 8), some 9, none⟩, []⟩,
    ⟨⟨.mv (.slot 0), some 10, some (9, true)⟩, []⟩,
    ⟨⟨.bin .leq 55 .num (.slot 10) (.const (.int .i32 (.ofNat 1048576))), some 11, some (9, true)⟩, []⟩,
    ⟨⟨.pick (.slot 9) (.slot 11) (.const (.bool false)), some 12, none⟩, []⟩,
    ⟨⟨.mv (.slot 12), some 2, none⟩, []⟩])
  .ret)),
  [.tmp 2]⟩
theorem xf61_ok : compFunc Try.prog Try.f61 = some xf61 := by kernel_rfl
/-- (*threshing/threshingref06.Checker).Find -/
def xf62 : XFunc := ⟨(.seq (.region false [⟨⟨.mv (.const (.int .i64 (.ofNat 0))), some 4, none⟩, []⟩])
  (.seq (.seq (.region false [⟨⟨.mv (.const (.int .i64 (.ofNat 0))), some 5, none⟩, []⟩])
  (.block 0 (.loop (.seq (.seq (.region false [⟨⟨.mv (.slot 5), some 6, none⟩, []⟩,
     ⟨⟨.mv (.slot 0), some 7, none⟩, []⟩,
     ⟨⟨.nilCheck (.slot 7), some 8, none⟩, []⟩,
     ⟨⟨.faddr 0 (.slot 8), some 9, none⟩, []⟩,
     ⟨⟨.load false 1 (.slot 9), some 10, none⟩, []⟩,
     ⟨⟨.len .slice (.slot 10), some 11, none⟩, []⟩,
     ⟨⟨.bin .lss 3 .num (.slot 6) (.slot 11), some 12, none⟩, []⟩])
   (.cond (.slot 12)
    .skip
    (.exit 0)))
   (.seq (.block 1 (.seq (.region false [⟨⟨.mv (.slot 0), some 15, none⟩, []⟩,
     ⟨⟨.nilCheck (.slot 15), some 16, none⟩, []⟩,
     ⟨⟨.faddr 0 (.slot 16), some 17, none⟩, []⟩,
     ⟨⟨.load false 1 (.slot 17), some 18, none⟩, []⟩,
     ⟨⟨.mv (.slot 5), some 19, none⟩, []⟩,
     ⟨⟨.iaddr 2 (.slot 18) (.slot 19), some 20, none⟩, []⟩,
     ⟨⟨.faddr 0 (.slot 20), some 21, none⟩, []⟩,
     ⟨⟨.load false 1 (.slot 21), some 22, none⟩, []⟩,
     ⟨⟨.mv (.slot 1), some 23, none⟩, []⟩,
     ⟨⟨.bin .eql 2 .num (.slot 22) (.slot 23), some 24, none⟩, []⟩])
   (.cond (.slot 24)
    (.seq (.region false [⟨⟨.mv (.slot 5), some 25, none⟩, []⟩,
      ⟨⟨.mv (.slot 25), some 4, none⟩, []⟩])
    .ret)
    .skip)))
   (.region false [⟨⟨.mv (.slot 5), some 13, none⟩, []⟩,
     ⟨⟨.bin .add 3 .num (.slot 13) (.const (.int .i64 (.ofNat 1))), some 14, none⟩, []⟩,
     ⟨⟨.mv (.slot 14), some 5, none⟩, []⟩]))))))
  (.seq (.region false [⟨⟨.mv (.const (.int .i64 (.negSucc 0))), some 4, none⟩, []⟩])
  .ret))),
  [.tmp 4]⟩
theorem xf62_ok : compFunc Try.prog Try.f62 = some xf62 := by kernel_rfl
/-- threshing/threshingref06.both -/
def xf63 : XFunc := ⟨(.seq (.region false [⟨⟨.mv (.const (.bool false)), some 2, none⟩, []⟩])
  (.seq (.region false [⟨⟨.mv (.slot 0), some 6, none⟩, []⟩,
    ⟨⟨.call (.const (.func 81 [] [])) [(.slot 6)], some 7, none⟩, []⟩,
    ⟨⟨.mv (.slot 7), some 5, none⟩, []⟩,
    ⟨⟨.extract (.slot 5) 0, some 8, none⟩, []⟩,
    ⟨⟨.extract (.slot 5) 1, some 9, none⟩, []⟩,
    ⟨⟨.mv (.slot 8), some 3, none⟩, []⟩,
    ⟨⟨.mv (.slot 9), some 4, none⟩, []⟩])
  (.seq (.region false [⟨⟨.mv (.slot 4), some 10, none⟩, []⟩,
    ⟨⟨.mv (.slot 10), some 2, none⟩, []⟩])
  .ret))),
  [.tmp 2]⟩
theorem xf63_ok : compFunc Try.prog Try.f63 = some xf63 := by kernel_rfl
/-- threshing/threshingref06.head -/
def xf64 : XFunc := ⟨(.seq (.region false [⟨⟨.mv (.const (.int .i64 (.ofNat 0))), some 2, none⟩, []⟩])
  (.seq (.region false [⟨⟨.mv (.const (.int .i64 (.ofNat 0))), some 3, none⟩, []⟩])
  (.seq (.block 0 (.loop (.seq (.seq (.region false [⟨⟨.mv (.slot 3), some 4, none⟩, []⟩,
     ⟨⟨.mv (.slot 0), some 5, none⟩, []⟩,
     ⟨⟨.len .slice (.slot 5), some 6, none⟩, []⟩,
     ⟨⟨.bin .lss 3 .num (.slot 4) (.slot 6), some 7, none⟩, []⟩,
     ⟨⟨.mv (.slot 7), some 8, none⟩, []⟩,
     ⟨⟨.mv (.slot 0), some 9, some (8, true)⟩, []⟩,
     ⟨⟨.mv (.slot 3), some 10, some (8, true)⟩, []⟩,
     ⟨⟨.iaddr 1 (.slot 9) (.slot 10), some 11, some (8, true)⟩, []⟩,
     ⟨⟨.load false 1 (.slot 11), some 12, some (8, true)⟩, []⟩,
     ⟨⟨.bin .gtr 2 .num (.slot 12) (.const (.int .i64 (.ofNat 0))), some 13, some (8, true)⟩, []⟩,
     ⟨⟨.pick (.slot 8) (.slot 13) (.const (.bool false)), some 14, none⟩, []⟩])
   (.cond (.slot 14)
    .skip
    (.exit 0)))
   (.block 1 (.region false [⟨⟨.mv (.slot 3), some 15, none⟩, []⟩,
     ⟨⟨.bin .add 3 .num (.slot 15) (.const (.int .i64 (.ofNat 1))), some 16, none⟩, []⟩,
     ⟨⟨.mv (.slot 16), some 3, none⟩, []⟩])))))
  (.seq (.region false [⟨⟨.mv (.slot 3), some 17, none⟩, []⟩,
    ⟨⟨.mv (.slot 17), some 2, none⟩, []⟩])
  .ret)))),
  [.tmp 2]⟩
theorem xf64_ok : compFunc Try.prog Try.f64 = some xf64 := by kernel_rfl
/-- (*threshing/threshingref06.Checker).through -/
def xf65 : XFunc := ⟨(.seq (.region false [⟨⟨.mv (.const .nils), some 6, none⟩, []⟩,
    ⟨⟨.mv (.const (.bool false)), some 7, none⟩, []⟩,
    ⟨⟨.mv (.const (.bool false)), some 8, none⟩, []⟩])
  (.seq (.seq (.region false [⟨⟨.mv (.const (.int .i64 (.ofNat 0))), some 9, none⟩, []⟩])
  (.block 0 (.loop (.seq (.seq (.region false [⟨⟨.mv (.slot 9), some 14, none⟩, []⟩,
     ⟨⟨.mv (.slot 2), some 15, none⟩, []⟩,
     ⟨⟨.len .slice (.slot 15), some 16, none⟩, []⟩,
     ⟨⟨.bin .lss 3 .num (.slot 14) (.slot 16), some 17, none⟩, []⟩])
   (.cond (.slot 17)
    .skip
    (.exit 0)))
   (.seq (.block 1 (.seq (.region false [⟨⟨.mv (.slot 0), some 20, none⟩, []⟩,
     ⟨⟨.mv (.slot 2), some 21, none⟩, []⟩,
     ⟨⟨.mv (.slot 9), some 22, none⟩, []⟩,
     ⟨⟨.iaddr 1 (.slot 21) (.slot 22), some 23, none⟩, []⟩,
     ⟨⟨.load false 1 (.slot 23), some 24, none⟩, []⟩,
     ⟨⟨.call (.const (.func 62 [] [])) [(.slot 20), (.slot 24)], some 25, none⟩, []⟩,
     ⟨⟨.mv (.slot 25), some 10, none⟩, []⟩])
   (.seq (.seq (.region false [⟨⟨.mv (.slot 10), some 26, none⟩, []⟩,
     ⟨⟨.bin .lss 3 .num (.slot 26) (.const (.int .i64 (.ofNat 0))), some 27, none⟩, []⟩])
   (.cond (.slot 27)
    (.seq (.region false [⟨⟨.mv (.slot 1), some 28, none⟩, []⟩,
      ⟨⟨.mv (.slot 28), some 6, none⟩, []⟩,
      ⟨⟨.mv (.const (.bool false)), some 7, none⟩, []⟩,
      ⟨⟨.mv (.const (.bool true)), some 8, none⟩, []⟩])
    .ret)
    .skip))
   (.seq (.region false [⟨⟨.mv (.const .nils), some 11, none⟩, []⟩])
   (.seq (.region false [⟨⟨.mv (.slot 0), some 29, none⟩, []⟩,
     ⟨⟨.nilCheck (.slot 29), some 30, none⟩, []⟩,
     ⟨⟨.faddr 0 (.slot 30), some 31, none⟩, []⟩,
     ⟨⟨.load false 1 (.slot 31), some 32, none⟩, []⟩,
     ⟨⟨.mv (.slot 10), some 33, none⟩, []⟩,
     ⟨⟨.iaddr 2 (.slot 32) (.slot 33), some 34, none⟩, []⟩,
     ⟨⟨.faddr 1 (.slot 34), some 35, none⟩, []⟩,
     ⟨⟨.load false 1 (.slot 35), some 36, none⟩, []⟩,
     ⟨⟨.mv (.slot 36), some 12, none⟩, []⟩])
   (.seq (.seq (.region false [⟨⟨.mv (.const (.int .i64 (.ofNat 0))), some 13, none⟩, []⟩])
   (.block 2 (.loop (.seq (.seq (.region false [⟨⟨.mv (.slot 13), some 37, none⟩, []⟩,
      ⟨⟨.mv (.slot 12), some 38, none⟩, []⟩,
      ⟨⟨.len .slice (.slot 38), some 39, none⟩, []⟩,
      ⟨⟨.bin .lss 3 .num (.slot 37) (.slot 39), some 40, none⟩, []⟩])
    (.cond (.slot 40)
     .skip
     (.exit 2)))
    (.seq (.block 3 (.seq (.seq (.region false [⟨⟨.mv (.slot 1), some 43, none⟩, []⟩,
      ⟨⟨.mv (.slot 12), some 44, none⟩, []⟩,
      ⟨⟨.mv (.slot 13), some 45, none⟩, []⟩,
      ⟨⟨.iaddr 1 (.slot 44) (.slot 45), some 46, none⟩, []⟩,
      ⟨⟨.load false 1 (.slot 46), some 47, none⟩, []⟩,
      ⟨⟨.call (.const (.func 40 [] [])) [(.slot 43), (.slot 47)], some 48, none⟩, []⟩])
    (.cond (.slot 48)
     (.seq (.region false [⟨⟨.mv (.slot 1), some 49, none⟩, []⟩,
       ⟨⟨.mv (.slot 49), some 6, none⟩, []⟩,
       ⟨⟨.mv (.const (.bool false)), some 7, none⟩, []⟩,
       ⟨⟨.mv (.const (.bool true)), some 8, none⟩, []⟩])
     .ret)
     .skip))
    (.seq (.region false [⟨⟨.mv (.slot 1), some 50, none⟩, []⟩,
      ⟨⟨.mv (.slot 12), some 51, none⟩, []⟩,
      ⟨⟨.mv (.slot 13), some 52, none⟩, []⟩,
      ⟨⟨.iaddr 1 (.slot 51) (.slot 52), some 53, none⟩, []⟩,
      ⟨⟨.load false 1 (.slot 53), some 54, none⟩, []⟩,
      ⟨⟨.un .neg (.slot 54), some 55, none⟩, []⟩,
      ⟨⟨.call (.const (.func 40 [] [])) [(.slot 50), (.slot 55)], some 56, none⟩, []⟩,
      ⟨⟨.un .not (.slot 56), some 57, none⟩, []⟩,
      ⟨⟨.mv (.slot 57), some 58, none⟩, []⟩,
      ⟨⟨.mv (.slot 11), some 59, some (58, true)⟩, []⟩,
      ⟨⟨.mv (.slot 12), some 60, some (58, true)⟩, []⟩,
      ⟨⟨.mv (.slot 13), some 61, some (58, true)⟩, []⟩,
      ⟨⟨.iaddr 1 (.slot 60) (.slot 61), some 62, some (58, true)⟩, []⟩,
      ⟨⟨.load false 1 (.slot 62), some 63, some (58, true)⟩, []⟩,
      ⟨⟨.call (.const (.func 40 [] [])) [(.slot 59), (.slot 63)], some 64, some (58, true)⟩, []⟩,
      ⟨⟨.un .not (.slot 64), some 65, some (58, true)⟩, []⟩,
      ⟨⟨.pick (.slot 58) (.slot 65) (.const (.bool false)), some 66, none⟩, []⟩])
    (.cond (.slot 66)
     (.region false [⟨⟨.mv (.slot 11), some 67, none⟩, []⟩,
       ⟨⟨.mv (.slot 12), some 68, none⟩, []⟩,
       ⟨⟨.mv (.slot 13), some 69, none⟩, []⟩,
       ⟨⟨.iaddr 1 (.slot 68) (.slot 69), some 70, none⟩, []⟩,
       ⟨⟨.load false 1 (.slot 70), some 71, none⟩, []⟩,
       ⟨⟨.bslice 1 [(.int .i32 (.ofNat 0))] [(0, 1, (.slot 71))] 1, some 72, none⟩, []⟩,
       ⟨⟨.append 1 4 (.slot 67) (.slot 72), some 73, none⟩, []⟩,
       ⟨⟨.mv (.slot 73), some 11, none⟩, []⟩])
     .skip))))
    (.region false [⟨⟨.mv (.slot 13), some 41, none⟩, []⟩,
      ⟨⟨.bin .add 3 .num (.slot 41) (.const (.int .i64 (.ofNat 1))), some 42, none⟩, []⟩,
      ⟨⟨.mv (.slot 42), some 13, none⟩, []⟩]))))))
   (.seq (.seq (.region false [⟨⟨.mv (.slot 11), some 74, none⟩, []⟩,
     ⟨⟨.len .slice (.slot 74), some 75, none⟩, []⟩,
     ⟨⟨.bin .eql 3 .num (.slot 75) (.const (.int .i64 (.ofNat 0))), some 76, none⟩, []⟩])
   (.cond (.slot 76)
    (.seq (.region false [⟨⟨.mv (.slot 1), some 77, none⟩, []⟩,
      ⟨⟨.mv (.slot 77), some 6, none⟩, []⟩,
      ⟨⟨.mv (.const (.bool true)), some 7, none⟩, []⟩,
      ⟨⟨.mv (.const (.bool false)), some 8, none⟩, []⟩])
    .ret)
    .skip))
   (.seq (.seq (.region false [⟨⟨.mv (.slot 11), some 78, none⟩, []⟩,
     ⟨⟨.len .slice (.slot 78), some 79, none⟩, []⟩,
     ⟨⟨.bin .gtr 3 .num (.slot 79) (.const (.int .i64 (.ofNat 1))), some 80, none⟩, []⟩])
   (.cond (.slot 80)
    (.seq (.region false [⟨⟨.mv (.slot 1), some 81, none⟩, []⟩,
      ⟨⟨.mv (.slot 81), some 6, none⟩, []⟩,
      ⟨⟨.mv (.const (.bool false)), some 7, none⟩, []⟩,
      ⟨⟨.mv (.const (.bool true)), some 8, none⟩, []⟩])
    .ret)
    .skip))
   (.region false [⟨⟨.mv (.slot 1), some 82, none⟩, []⟩,
     ⟨⟨.mv (.slot 11), some 83, none⟩, []⟩,
     ⟨⟨.iaddr 1 (.slot 83) (.const (.int .i64 (.ofNat 0))), some 84, none⟩, []⟩,
     ⟨⟨.load false 1 (.slot 84), some 85, none⟩, []⟩,
     ⟨⟨.bslice 1 [(.int .i32 (.ofNat 0))] [(0, 1, (.slot 85))] 1, some 86, none⟩, []⟩,
     ⟨⟨.append 1 4 (.slot 82) (.slot 86), some 87, none⟩, []⟩,
     ⟨⟨.mv (.slot 87), some 1, none⟩, []⟩])))))))))
   (.region false [⟨⟨.mv (.slot 9), some 18, none⟩, []⟩,
     ⟨⟨.bin .add 3 .num (.slot 18) (.const (.int .i64 (.ofNat 1))), some 19, none⟩, []⟩,
     ⟨⟨.mv (.slot 19), some 9, none⟩, []⟩]))))))
  (.seq (.region false [⟨⟨.mv (.slot 1), some 88, none⟩, []⟩,
    ⟨⟨.mv (.slot 88), some 6, none⟩, []⟩,
    ⟨⟨.mv (.const (.bool false)), some 7, none⟩, []⟩,
    ⟨⟨.mv (.const (.bool false)), some 8, none⟩, []⟩])
  .ret))),
  [.tmp 6, .tmp 7, .tmp 8]⟩
theorem xf65_ok : compFunc Try.prog Try.f65 = some xf65 := by kernel_rfl
end Go.Proofs.Yteeidjmjeefpnaa

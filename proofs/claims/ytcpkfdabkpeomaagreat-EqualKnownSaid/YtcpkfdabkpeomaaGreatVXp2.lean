/- The functions of the program in X's code, printed by a program of ours; each is what the program's own is turned to. -/
import Derived.Test.YtcpkfdabkpeomaaGreatProg
import Derived.Test.YtcpkfdabkpeomaaGreatW0
import Derived.KernelRfl
namespace Go.Proofs.YtcpkfdabkpeomaaGreat
open Go.Xr
/- slices.Index[[]threshing/api.Lit,threshing/api.Lit] -/
def r37_0 : List XLine := [⟨⟨.mv (.const (.int .i64 (.ofNat 0))), some 4, none⟩, []⟩]
def r37_1 : List XLine := [⟨⟨.mv (.slot 0), some 6, none⟩, []⟩,
  ⟨⟨.len .slice (.slot 6), some 7, none⟩, []⟩,
  ⟨⟨.mv (.const (.int .i64 (.ofNat 0))), some 8, none⟩, []⟩]
def r37_2 : List XLine := [⟨⟨.bin .lss 3 .num (.slot 8) (.slot 7), some 9, none⟩, []⟩]
def r37_3 : List XLine := [⟨⟨.mv (.slot 8), some 10, none⟩, []⟩,
  ⟨⟨.mv (.slot 10), some 5, none⟩, []⟩]
def r37_4 : List XLine := [⟨⟨.mv (.slot 1), some 11, none⟩, []⟩,
  ⟨⟨.mv (.slot 0), some 12, none⟩, []⟩,
  ⟨⟨.mv (.slot 5), some 13, none⟩, []⟩,
  ⟨⟨.iaddr 1 (.slot 12) (.slot 13), some 14, none⟩, []⟩,
  ⟨⟨.load false 1 (.slot 14), some 15, none⟩, []⟩,
  ⟨⟨.bin .eql 24 .num (.slot 11) (.slot 15), some 16, none⟩, []⟩]
def r37_5 : List XLine := [⟨⟨.mv (.slot 5), some 17, none⟩, []⟩,
  ⟨⟨.mv (.slot 17), some 4, none⟩, []⟩]
def r37_6 : List XLine := [⟨⟨.bin .add 3 .num (.slot 8) (.const (.int .i64 (.ofNat 1))), some 18, none⟩, []⟩,
  ⟨⟨.mv (.slot 18), some 8, none⟩, []⟩]
def r37_7 : List XLine := [⟨⟨.mv (.const (.int .i64 (.negSucc 0))), some 4, none⟩, []⟩]
def xf37 : XFunc := ⟨(.seq (.region false r37_0)
  (.seq (.seq (.region false r37_1)
  (.block 0 (.loop (.seq (.region false r37_2)
  (.seq (.cond (.slot 9)
  .skip
  (.exit 0))
  (.seq (.block 1 (.seq (.region false r37_3)
  (.seq (.region false r37_4)
  (.cond (.slot 16)
  (.seq (.region false r37_5)
  .ret)
  .skip))))
  (.region false r37_6)))))))
  (.seq (.region false r37_7)
  .ret))),
  [.tmp 4]⟩
theorem xf37_ok : compFunc Tryz.prog Tryz.f37 = some xf37 := by kernel_rfl
/- slices.Clone[[]threshing/api.Lit,threshing/api.Lit] -/
def r38_0 : List XLine := [⟨⟨.mv (.const .nils), some 2, none⟩, []⟩]
def r38_1 : List XLine := [⟨⟨.mv (.slot 0), some 3, none⟩, []⟩,
  ⟨⟨.bin .eql 25 .slice (.slot 3) (.const .nils), some 4, none⟩, []⟩]
def r38_2 : List XLine := [⟨⟨.mv (.const .nils), some 2, none⟩, []⟩]
def r38_3 : List XLine := [⟨⟨.bslice 1 [] [] 0, some 5, none⟩, []⟩,
  ⟨⟨.mv (.slot 0), some 6, none⟩, []⟩,
  ⟨⟨.append 1 4 (.slot 5) (.slot 6), some 7, none⟩, []⟩,
  ⟨⟨.mv (.slot 7), some 2, none⟩, []⟩]
def xf38 : XFunc := ⟨(.seq (.region false r38_0)
  (.seq (.seq (.region false r38_1)
  (.cond (.slot 4)
  (.seq (.region false r38_2)
  .ret)
  .skip))
  (.seq (.region false r38_3)
  .ret))),
  [.tmp 2]⟩
theorem xf38_ok : compFunc Tryz.prog Tryz.f38 = some xf38 := by kernel_rfl
/- (threshing/cnf.lit).variable -/
def r39_0 : List XLine := [⟨⟨.mv (.const (.int .i64 (.ofNat 0))), some 2, none⟩, []⟩]
def r39_1 : List XLine := [⟨⟨.mv (.slot 0), some 3, none⟩, []⟩,
  ⟨⟨.bin .lss 100 .num (.slot 3) (.const (.int .i32 (.ofNat 0))), some 4, none⟩, []⟩]
def r39_2 : List XLine := [⟨⟨.mv (.slot 0), some 5, none⟩, []⟩,
  ⟨⟨.conv .i64 (.slot 5), some 6, none⟩, []⟩,
  ⟨⟨.un .neg (.slot 6), some 7, none⟩, []⟩,
  ⟨⟨.mv (.slot 7), some 2, none⟩, []⟩]
def r39_3 : List XLine := [⟨⟨.mv (.slot 0), some 8, none⟩, []⟩,
  ⟨⟨.conv .i64 (.slot 8), some 9, none⟩, []⟩,
  ⟨⟨.mv (.slot 9), some 2, none⟩, []⟩]
def xf39 : XFunc := ⟨(.seq (.region false r39_0)
  (.seq (.seq (.region false r39_1)
  (.cond (.slot 4)
  (.seq (.region false r39_2)
  .ret)
  .skip))
  (.seq (.region false r39_3)
  .ret))),
  [.tmp 2]⟩
theorem xf39_ok : compFunc Tryz.prog Tryz.f39 = some xf39 := by kernel_rfl
/- (*threshing/base.Base).Add -/
def r40_0 : List XLine := [⟨⟨.mv (.const (.int .i64 (.ofNat 0))), some 8, none⟩, []⟩,
  ⟨⟨.mv (.const (.int .i64 (.ofNat 0))), some 9, none⟩, []⟩]
def r40_1 : List XLine := [⟨⟨.mv (.slot 0), some 12, none⟩, []⟩,
  ⟨⟨.bin .eql 22 .ptr (.slot 12) (.const .nilp), some 13, none⟩, []⟩,
  ⟨⟨.mv (.slot 13), some 11, none⟩, []⟩]
def r40_2 : List XLine := [⟨⟨.mv (.const (.int .i64 (.ofNat 0))), some 8, none⟩, []⟩,
  ⟨⟨.mv (.const (.int .i64 (.ofNat 1))), some 9, none⟩, []⟩]
def r40_3 : List XLine := [⟨⟨.mv (.slot 0), some 15, none⟩, []⟩,
  ⟨⟨.call (.const (.func 65 [] [])) [(.slot 15)], some 16, none⟩, []⟩,
  ⟨⟨.mv (.slot 16), some 14, none⟩, []⟩]
def r40_4 : List XLine := [⟨⟨.mv (.const (.int .i64 (.ofNat 0))), some 8, none⟩, []⟩,
  ⟨⟨.mv (.const (.int .i64 (.ofNat 3))), some 9, none⟩, []⟩]
def r40_5 : List XLine := [⟨⟨.mv (.slot 0), some 18, none⟩, []⟩,
  ⟨⟨.mv (.slot 1), some 19, none⟩, []⟩,
  ⟨⟨.call (.const (.func 66 [] [])) [(.slot 18), (.slot 19)], some 20, none⟩, []⟩,
  ⟨⟨.un .not (.slot 20), some 21, none⟩, []⟩,
  ⟨⟨.mv (.slot 21), some 17, none⟩, []⟩]
def r40_6 : List XLine := [⟨⟨.mv (.const (.int .i64 (.ofNat 0))), some 8, none⟩, []⟩,
  ⟨⟨.mv (.const (.int .i64 (.ofNat 4))), some 9, none⟩, []⟩]
def r40_7 : List XLine := [⟨⟨.mv (.slot 0), some 22, none⟩, []⟩,
  ⟨⟨.mv (.slot 1), some 23, none⟩, []⟩,
  ⟨⟨.mv (.slot 2), some 24, none⟩, []⟩,
  ⟨⟨.call (.const (.func 67 [] [])) [(.slot 22), (.slot 23), (.slot 24)], some 25, none⟩, []⟩,
  ⟨⟨.mv (.slot 25), some 10, none⟩, []⟩]
def r40_8 : List XLine := [⟨⟨.mv (.slot 10), some 26, none⟩, []⟩,
  ⟨⟨.bin .neq 27 .num (.slot 26) (.const (.int .i64 (.ofNat 0))), some 27, none⟩, []⟩]
def r40_9 : List XLine := [⟨⟨.mv (.slot 10), some 28, none⟩, []⟩,
  ⟨⟨.mv (.const (.int .i64 (.ofNat 0))), some 8, none⟩, []⟩,
  ⟨⟨.mv (.slot 28), some 9, none⟩, []⟩]
def r40_10 : List XLine := [⟨⟨.mv (.slot 0), some 29, none⟩, []⟩,
  ⟨⟨.mv (.slot 1), some 30, none⟩, []⟩,
  ⟨⟨.mv (.slot 3), some 31, none⟩, []⟩,
  ⟨⟨.call (.const (.func 31 [] [])) [(.slot 29), (.slot 30), (.slot 31)], some 32, none⟩, []⟩]
def r40_11 : List XLine := [⟨⟨.mv (.slot 0), some 33, none⟩, []⟩,
  ⟨⟨.mv (.slot 0), some 34, none⟩, []⟩,
  ⟨⟨.nilCheck (.slot 34), some 35, none⟩, []⟩,
  ⟨⟨.faddr 5 (.slot 35), some 36, none⟩, []⟩,
  ⟨⟨.load false 1 (.slot 36), some 37, none⟩, []⟩,
  ⟨⟨.mv (.slot 0), some 38, none⟩, []⟩,
  ⟨⟨.nilCheck (.slot 38), some 39, none⟩, []⟩,
  ⟨⟨.faddr 4 (.slot 39), some 40, none⟩, []⟩,
  ⟨⟨.load false 1 (.slot 40), some 41, none⟩, []⟩,
  ⟨⟨.mv (.slot 1), some 42, none⟩, []⟩,
  ⟨⟨.mv (.slot 2), some 44, none⟩, []⟩,
  ⟨⟨.call (.const (.func 48 [] [])) [(.slot 42)], some 43, none⟩, [⟨.load false 1 (.slot 36), some 37, none⟩, ⟨.load false 1 (.slot 40), some 41, none⟩]⟩,
  ⟨⟨.call (.const (.func 68 [] [])) [(.slot 44)], some 45, none⟩, [⟨.load false 1 (.slot 36), some 37, none⟩, ⟨.load false 1 (.slot 40), some 41, none⟩]⟩,
  ⟨⟨.build [(.int .u8 (.ofNat 0)), (.int .i64 (.ofNat 0)), .nils, .nils] [(0, 1, (.const (.int .u8 (.ofNat 1)))), (1, 1, (.slot 41)), (2, 1, (.slot 43)), (3, 1, (.slot 45))], some 46, none⟩, []⟩,
  ⟨⟨.bslice 4 [(.int .u8 (.ofNat 0)), (.int .i64 (.ofNat 0)), .nils, .nils] [(0, 4, (.slot 46))] 1, some 47, none⟩, [⟨.load false 1 (.slot 36), some 37, none⟩]⟩,
  ⟨⟨.append 4 64 (.slot 37) (.slot 47), some 48, none⟩, []⟩,
  ⟨⟨.nilCheck (.slot 33), some 49, none⟩, []⟩,
  ⟨⟨.faddr 5 (.slot 49), some 50, none⟩, []⟩,
  ⟨⟨.store 1 (.slot 50) (.slot 48), none, none⟩, []⟩]
def r40_12 : List XLine := [⟨⟨.mv (.slot 0), some 51, none⟩, []⟩,
  ⟨⟨.mv (.slot 0), some 52, none⟩, []⟩,
  ⟨⟨.nilCheck (.slot 52), some 53, none⟩, []⟩,
  ⟨⟨.faddr 4 (.slot 53), some 54, none⟩, []⟩,
  ⟨⟨.load false 1 (.slot 54), some 55, none⟩, []⟩,
  ⟨⟨.mv (.slot 3), some 56, none⟩, []⟩,
  ⟨⟨.mv (.slot 1), some 57, none⟩, []⟩,
  ⟨⟨.mv (.slot 2), some 59, none⟩, []⟩,
  ⟨⟨.call (.const (.func 48 [] [])) [(.slot 57)], some 58, none⟩, [⟨.load false 1 (.slot 54), some 55, none⟩]⟩,
  ⟨⟨.call (.const (.func 68 [] [])) [(.slot 59)], some 60, none⟩, [⟨.load false 1 (.slot 54), some 55, none⟩]⟩,
  ⟨⟨.build [(.int .u8 (.ofNat 0)), (.int .i64 (.ofNat 0)), (.int .i64 (.ofNat 0)), (.bool false), .nils, .nils] [(0, 1, (.const (.int .u8 (.ofNat 1)))), (1, 1, (.slot 55)), (3, 1, (.slot 56)), (4, 1, (.slot 58)), (5, 1, (.slot 60))], some 61, none⟩, []⟩,
  ⟨⟨.call (.const (.func 69 [] [])) [(.slot 51), (.slot 61)], some 62, none⟩, []⟩]
def r40_13 : List XLine := [⟨⟨.mv (.slot 0), some 63, none⟩, []⟩,
  ⟨⟨.nilCheck (.slot 63), some 64, none⟩, []⟩,
  ⟨⟨.faddr 4 (.slot 64), some 65, none⟩, []⟩,
  ⟨⟨.load false 1 (.slot 65), some 66, none⟩, []⟩,
  ⟨⟨.mv (.slot 66), some 8, none⟩, []⟩,
  ⟨⟨.mv (.const (.int .i64 (.ofNat 0))), some 9, none⟩, []⟩]
def xf40 : XFunc := ⟨(.seq (.region false r40_0)
  (.seq (.block 0 (.seq (.region false r40_1)
  (.cond (.slot 11)
  (.seq (.region false r40_2)
  .ret)
  (.seq (.region false r40_3)
  (.cond (.slot 14)
  (.seq (.region false r40_4)
  .ret)
  (.seq (.region false r40_5)
  (.cond (.slot 17)
  (.seq (.region false r40_6)
  .ret)
  .skip)))))))
  (.seq (.seq (.region false r40_7)
  (.seq (.region false r40_8)
  (.cond (.slot 27)
  (.seq (.region false r40_9)
  .ret)
  .skip)))
  (.seq (.region false r40_10)
  (.seq (.region true r40_11)
  (.seq (.region true r40_12)
  (.seq (.region false r40_13)
  .ret))))))),
  [.tmp 8, .tmp 9]⟩
theorem xf40_ok : compFunc Tryz.prog Tryz.f40 = some xf40 := by kernel_rfl
/- (threshing/unit.Trail).Hints -/
def r41_0 : List XLine := [⟨⟨.box (.slot 0), some 1, none⟩, []⟩,
  ⟨⟨.mv (.const .nils), some 2, none⟩, []⟩]
def r41_1 : List XLine := [⟨⟨.faddr 1 (.slot 1), some 4, none⟩, []⟩,
  ⟨⟨.load false 1 (.slot 4), some 5, none⟩, []⟩,
  ⟨⟨.call (.const (.func 68 [] [])) [(.slot 5)], some 6, none⟩, []⟩,
  ⟨⟨.mv (.slot 6), some 3, none⟩, []⟩]
def r41_2 : List XLine := [⟨⟨.faddr 2 (.slot 1), some 7, none⟩, []⟩,
  ⟨⟨.load false 1 (.slot 7), some 8, none⟩, []⟩,
  ⟨⟨.bin .neq 2 .num (.slot 8) (.const (.int .i64 (.ofNat 0))), some 9, none⟩, []⟩]
def r41_3 : List XLine := [⟨⟨.mv (.slot 3), some 10, none⟩, []⟩,
  ⟨⟨.faddr 2 (.slot 1), some 11, none⟩, []⟩,
  ⟨⟨.load false 1 (.slot 11), some 12, none⟩, []⟩,
  ⟨⟨.bslice 1 [(.int .i64 (.ofNat 0))] [(0, 1, (.slot 12))] 1, some 13, none⟩, []⟩,
  ⟨⟨.append 1 8 (.slot 10) (.slot 13), some 14, none⟩, []⟩,
  ⟨⟨.mv (.slot 14), some 3, none⟩, []⟩]
def r41_4 : List XLine := [⟨⟨.mv (.slot 3), some 15, none⟩, []⟩,
  ⟨⟨.mv (.slot 15), some 2, none⟩, []⟩]
def xf41 : XFunc := ⟨(.seq (.region false r41_0)
  (.seq (.region false r41_1)
  (.seq (.seq (.region false r41_2)
  (.cond (.slot 9)
  (.region false r41_3)
  .skip))
  (.seq (.region false r41_4)
  .ret)))),
  [.tmp 2]⟩
theorem xf41_ok : compFunc Tryz.prog Tryz.f41 = some xf41 := by kernel_rfl
/- threshing/equal.clause -/
def r42_0 : List XLine := [⟨⟨.mv (.const (.int .i64 (.ofNat 0))), some 4, none⟩, []⟩,
  ⟨⟨.mv (.const (.int .i64 (.ofNat 0))), some 5, none⟩, []⟩]
def r42_1 : List XLine := [⟨⟨.mv (.slot 0), some 12, none⟩, []⟩,
  ⟨⟨.mv (.slot 1), some 13, none⟩, []⟩,
  ⟨⟨.iaddr 1 (.slot 13) (.const (.int .i64 (.ofNat 0))), some 14, none⟩, []⟩,
  ⟨⟨.load false 1 (.slot 14), some 15, none⟩, []⟩,
  ⟨⟨.call (.const (.func 9 [] [])) [(.slot 12), (.slot 15)], some 16, none⟩, []⟩,
  ⟨⟨.len .slice (.slot 16), some 17, none⟩, []⟩,
  ⟨⟨.mv (.const (.int .i64 (.ofNat 0))), some 18, none⟩, []⟩]
def r42_2 : List XLine := [⟨⟨.bin .lss 3 .num (.slot 18) (.slot 17), some 19, none⟩, []⟩]
def r42_3 : List XLine := [⟨⟨.iaddr 1 (.slot 16) (.slot 18), some 20, none⟩, []⟩,
  ⟨⟨.load false 1 (.slot 20), some 21, none⟩, []⟩,
  ⟨⟨.mv (.slot 21), some 7, none⟩, []⟩]
def r42_4 : List XLine := [⟨⟨.mv (.slot 0), some 23, none⟩, []⟩,
  ⟨⟨.mv (.slot 7), some 24, none⟩, []⟩,
  ⟨⟨.call (.const (.func 6 [] [])) [(.slot 23), (.slot 24)], some 25, none⟩, []⟩,
  ⟨⟨.mv (.slot 25), some 22, none⟩, []⟩,
  ⟨⟨.extract (.slot 22) 0, some 26, none⟩, []⟩,
  ⟨⟨.extract (.slot 22) 1, some 27, none⟩, []⟩,
  ⟨⟨.alloc [(.int .i64 (.ofNat 0)), .nils, (.bool false)], some 8, none⟩, []⟩,
  ⟨⟨.store 3 (.slot 8) (.slot 26), none, none⟩, []⟩,
  ⟨⟨.mv (.slot 27), some 9, none⟩, []⟩]
def r42_5 : List XLine := [⟨⟨.faddr 2 (.slot 8), some 28, none⟩, []⟩,
  ⟨⟨.load false 1 (.slot 28), some 29, none⟩, []⟩,
  ⟨⟨.un .not (.slot 29), some 30, none⟩, []⟩,
  ⟨⟨.mv (.slot 30), some 31, none⟩, []⟩,
  ⟨⟨.faddr 1 (.slot 8), some 32, some (31, true)⟩, []⟩,
  ⟨⟨.load false 1 (.slot 32), some 33, some (31, true)⟩, []⟩,
  ⟨⟨.mv (.slot 1), some 34, some (31, true)⟩, []⟩,
  ⟨⟨.call (.const (.func 70 [] [])) [(.slot 33), (.slot 34)], some 35, some (31, true)⟩, []⟩,
  ⟨⟨.pick (.slot 31) (.slot 35) (.const (.bool false)), some 36, none⟩, []⟩]
def r42_6 : List XLine := [⟨⟨.mv (.slot 7), some 37, none⟩, []⟩,
  ⟨⟨.mv (.slot 37), some 4, none⟩, []⟩,
  ⟨⟨.mv (.const (.int .i64 (.ofNat 0))), some 5, none⟩, []⟩]
def r42_7 : List XLine := [⟨⟨.bin .add 3 .num (.slot 18) (.const (.int .i64 (.ofNat 1))), some 38, none⟩, []⟩,
  ⟨⟨.mv (.slot 38), some 18, none⟩, []⟩]
def r42_8 : List XLine := [⟨⟨.mv (.slot 0), some 40, none⟩, []⟩,
  ⟨⟨.mv (.slot 1), some 41, none⟩, []⟩,
  ⟨⟨.iaddr 1 (.slot 41) (.const (.int .i64 (.ofNat 0))), some 42, none⟩, []⟩,
  ⟨⟨.load false 1 (.slot 42), some 43, none⟩, []⟩,
  ⟨⟨.un .neg (.slot 43), some 44, none⟩, []⟩,
  ⟨⟨.mv (.slot 1), some 45, none⟩, []⟩,
  ⟨⟨.iaddr 1 (.slot 45) (.const (.int .i64 (.ofNat 1))), some 46, none⟩, []⟩,
  ⟨⟨.load false 1 (.slot 46), some 47, none⟩, []⟩,
  ⟨⟨.un .neg (.slot 47), some 48, none⟩, []⟩,
  ⟨⟨.bslice 1 [(.int .i32 (.ofNat 0)), (.int .i32 (.ofNat 0))] [(0, 1, (.slot 44)), (1, 1, (.slot 48))] 2, some 49, none⟩, []⟩,
  ⟨⟨.call (.const (.func 13 [] [])) [(.slot 40), (.slot 49), (.const (.int .i64 (.ofNat 0)))], some 50, none⟩, []⟩,
  ⟨⟨.mv (.slot 50), some 39, none⟩, []⟩,
  ⟨⟨.extract (.slot 39) 0, some 51, none⟩, []⟩,
  ⟨⟨.extract (.slot 39) 1, some 52, none⟩, []⟩,
  ⟨⟨.alloc [.nils, .nils, (.int .i64 (.ofNat 0))], some 10, none⟩, [⟨.load false 1 (.slot 42), some 43, none⟩, ⟨.load false 1 (.slot 46), some 47, none⟩]⟩,
  ⟨⟨.store 3 (.slot 10) (.slot 51), none, none⟩, []⟩,
  ⟨⟨.mv (.slot 52), some 11, none⟩, []⟩]
def r42_9 : List XLine := [⟨⟨.mv (.slot 11), some 53, none⟩, []⟩,
  ⟨⟨.bin .neq 27 .num (.slot 53) (.const (.int .i64 (.ofNat 0))), some 54, none⟩, []⟩]
def r42_10 : List XLine := [⟨⟨.mv (.slot 11), some 55, none⟩, []⟩,
  ⟨⟨.mv (.const (.int .i64 (.ofNat 0))), some 4, none⟩, []⟩,
  ⟨⟨.mv (.slot 55), some 5, none⟩, []⟩]
def r42_11 : List XLine := [⟨⟨.mv (.slot 0), some 56, none⟩, []⟩,
  ⟨⟨.mv (.slot 1), some 57, none⟩, []⟩,
  ⟨⟨.load true 3 (.slot 10), some 58, none⟩, []⟩,
  ⟨⟨.call (.const (.func 41 [] [])) [(.slot 58)], some 59, none⟩, []⟩,
  ⟨⟨.call (.const (.func 40 [] [])) [(.slot 56), (.slot 57), (.slot 59), (.const (.bool false))], some 60, none⟩, []⟩,
  ⟨⟨.extract (.slot 60) 0, some 61, none⟩, []⟩,
  ⟨⟨.extract (.slot 60) 1, some 62, none⟩, []⟩,
  ⟨⟨.mv (.slot 61), some 4, none⟩, []⟩,
  ⟨⟨.mv (.slot 62), some 5, none⟩, []⟩]
def xf42 : XFunc := ⟨(.seq (.region false r42_0)
  (.seq (.seq (.region false r42_1)
  (.block 0 (.loop (.seq (.region false r42_2)
  (.seq (.cond (.slot 19)
  .skip
  (.exit 0))
  (.seq (.block 1 (.seq (.region false r42_3)
  (.seq (.region false r42_4)
  (.seq (.region false r42_5)
  (.cond (.slot 36)
  (.seq (.region false r42_6)
  .ret)
  .skip)))))
  (.region false r42_7)))))))
  (.seq (.region true r42_8)
  (.seq (.seq (.region false r42_9)
  (.cond (.slot 54)
  (.seq (.region false r42_10)
  .ret)
  .skip))
  (.seq (.region false r42_11)
  .ret))))),
  [.tmp 4, .tmp 5]⟩
theorem xf42_ok : compFunc Tryz.prog Tryz.f42 = some xf42 := by kernel_rfl
/- slices.Concat[[]int64,int64] -/
def r43_0 : List XLine := [⟨⟨.mv (.const .nils), some 2, none⟩, []⟩]
def r43_1 : List XLine := [⟨⟨.mv (.const (.int .i64 (.ofNat 0))), some 3, none⟩, []⟩]
def r43_2 : List XLine := [⟨⟨.mv (.slot 0), some 9, none⟩, []⟩,
  ⟨⟨.len .slice (.slot 9), some 10, none⟩, []⟩,
  ⟨⟨.mv (.const (.int .i64 (.ofNat 0))), some 11, none⟩, []⟩]
def r43_3 : List XLine := [⟨⟨.bin .lss 3 .num (.slot 11) (.slot 10), some 12, none⟩, []⟩]
def r43_4 : List XLine := [⟨⟨.iaddr 1 (.slot 9) (.slot 11), some 13, none⟩, []⟩,
  ⟨⟨.load false 1 (.slot 13), some 14, none⟩, []⟩,
  ⟨⟨.mv (.slot 14), some 5, none⟩, []⟩]
def r43_5 : List XLine := [⟨⟨.mv (.slot 3), some 15, none⟩, []⟩,
  ⟨⟨.mv (.slot 5), some 16, none⟩, []⟩,
  ⟨⟨.len .slice (.slot 16), some 17, none⟩, []⟩,
  ⟨⟨.bin .add 3 .num (.slot 15) (.slot 17), some 18, none⟩, []⟩,
  ⟨⟨.mv (.slot 18), some 3, none⟩, []⟩]
def r43_6 : List XLine := [⟨⟨.mv (.slot 3), some 19, none⟩, []⟩,
  ⟨⟨.bin .lss 3 .num (.slot 19) (.const (.int .i64 (.ofNat 0))), some 20, none⟩, []⟩]
def r43_7 : List XLine := [⟨⟨.mkif 9 (.const (.str ⟨⟨[108, 101, 110, 32, 111, 117, 116, 32, 111, 102, 32, 114, 97, 110, 103, 101]⟩⟩)), some 21, none⟩, []⟩,
  ⟨⟨.bad, none, none⟩, []⟩]
def r43_8 : List XLine := [⟨⟨.bin .add 3 .num (.slot 11) (.const (.int .i64 (.ofNat 1))), some 22, none⟩, []⟩,
  ⟨⟨.mv (.slot 22), some 11, none⟩, []⟩]
def r43_9 : List XLine := [⟨⟨.mv (.slot 3), some 23, none⟩, []⟩,
  ⟨⟨.call (.const (.func 71 [] [])) [(.const .nils), (.slot 23)], some 24, none⟩, []⟩,
  ⟨⟨.mv (.slot 24), some 6, none⟩, []⟩]
def r43_10 : List XLine := [⟨⟨.mv (.slot 0), some 25, none⟩, []⟩,
  ⟨⟨.len .slice (.slot 25), some 26, none⟩, []⟩,
  ⟨⟨.mv (.const (.int .i64 (.ofNat 0))), some 27, none⟩, []⟩]
def r43_11 : List XLine := [⟨⟨.bin .lss 3 .num (.slot 27) (.slot 26), some 28, none⟩, []⟩]
def r43_12 : List XLine := [⟨⟨.iaddr 1 (.slot 25) (.slot 27), some 29, none⟩, []⟩,
  ⟨⟨.load false 1 (.slot 29), some 30, none⟩, []⟩,
  ⟨⟨.mv (.slot 30), some 8, none⟩, []⟩]
def r43_13 : List XLine := [⟨⟨.mv (.slot 6), some 31, none⟩, []⟩,
  ⟨⟨.mv (.slot 8), some 32, none⟩, []⟩,
  ⟨⟨.append 1 8 (.slot 31) (.slot 32), some 33, none⟩, []⟩,
  ⟨⟨.mv (.slot 33), some 6, none⟩, []⟩]
def r43_14 : List XLine := [⟨⟨.bin .add 3 .num (.slot 27) (.const (.int .i64 (.ofNat 1))), some 34, none⟩, []⟩,
  ⟨⟨.mv (.slot 34), some 27, none⟩, []⟩]
def r43_15 : List XLine := [⟨⟨.mv (.slot 6), some 35, none⟩, []⟩,
  ⟨⟨.mv (.slot 35), some 2, none⟩, []⟩]
def xf43 : XFunc := ⟨(.seq (.region false r43_0)
  (.seq (.region false r43_1)
  (.seq (.seq (.region false r43_2)
  (.block 0 (.loop (.seq (.region false r43_3)
  (.seq (.cond (.slot 12)
  .skip
  (.exit 0))
  (.seq (.block 1 (.seq (.region false r43_4)
  (.seq (.region false r43_5)
  (.seq (.region false r43_6)
  (.cond (.slot 20)
  (.region false r43_7)
  .skip)))))
  (.region false r43_8)))))))
  (.seq (.region false r43_9)
  (.seq (.seq (.region false r43_10)
  (.block 2 (.loop (.seq (.region false r43_11)
  (.seq (.cond (.slot 28)
  .skip
  (.exit 2))
  (.seq (.block 3 (.seq (.region false r43_12)
  (.region false r43_13)))
  (.region false r43_14)))))))
  (.seq (.region false r43_15)
  .ret)))))),
  [.tmp 2]⟩
theorem xf43_ok : compFunc Tryz.prog Tryz.f43 = some xf43 := by kernel_rfl
/- slices.Sort[[]int64,int64] -/
def r44_0 : List XLine := [⟨⟨.mv (.slot 0), some 3, none⟩, []⟩,
  ⟨⟨.len .slice (.slot 3), some 4, none⟩, []⟩,
  ⟨⟨.mv (.slot 4), some 2, none⟩, []⟩]
def r44_1 : List XLine := [⟨⟨.mv (.slot 0), some 5, none⟩, []⟩,
  ⟨⟨.mv (.slot 2), some 6, none⟩, []⟩,
  ⟨⟨.mv (.slot 2), some 7, none⟩, []⟩,
  ⟨⟨.conv .u64 (.slot 7), some 8, none⟩, []⟩,
  ⟨⟨.call (.const (.func 73 [] [])) [(.slot 8)], some 9, none⟩, []⟩,
  ⟨⟨.call (.const (.func 72 [] [])) [(.slot 5), (.const (.int .i64 (.ofNat 0))), (.slot 6), (.slot 9)], some 10, none⟩, []⟩]
def xf44 : XFunc := ⟨(.seq (.region false r44_0)
  (.region false r44_1)),
  []⟩
theorem xf44_ok : compFunc Tryz.prog Tryz.f44 = some xf44 := by kernel_rfl
/- slices.Compact[[]int64,int64] -/
def r45_0 : List XLine := [⟨⟨.mv (.const .nils), some 2, none⟩, []⟩]
def r45_1 : List XLine := [⟨⟨.mv (.slot 0), some 6, none⟩, []⟩,
  ⟨⟨.len .slice (.slot 6), some 7, none⟩, []⟩,
  ⟨⟨.bin .lss 3 .num (.slot 7) (.const (.int .i64 (.ofNat 2))), some 8, none⟩, []⟩]
def r45_2 : List XLine := [⟨⟨.mv (.slot 0), some 9, none⟩, []⟩,
  ⟨⟨.mv (.slot 9), some 2, none⟩, []⟩]
def r45_3 : List XLine := [⟨⟨.mv (.const (.int .i64 (.ofNat 1))), some 3, none⟩, []⟩]
def r45_4 : List XLine := [⟨⟨.mv (.slot 3), some 10, none⟩, []⟩,
  ⟨⟨.mv (.slot 0), some 11, none⟩, []⟩,
  ⟨⟨.len .slice (.slot 11), some 12, none⟩, []⟩,
  ⟨⟨.bin .lss 3 .num (.slot 10) (.slot 12), some 13, none⟩, []⟩]
def r45_5 : List XLine := [⟨⟨.mv (.slot 0), some 16, none⟩, []⟩,
  ⟨⟨.mv (.slot 3), some 17, none⟩, []⟩,
  ⟨⟨.iaddr 1 (.slot 16) (.slot 17), some 18, none⟩, []⟩,
  ⟨⟨.load false 1 (.slot 18), some 19, none⟩, []⟩,
  ⟨⟨.mv (.slot 0), some 20, none⟩, []⟩,
  ⟨⟨.mv (.slot 3), some 21, none⟩, []⟩,
  ⟨⟨.bin .sub 3 .num (.slot 21) (.const (.int .i64 (.ofNat 1))), some 22, none⟩, []⟩,
  ⟨⟨.iaddr 1 (.slot 20) (.slot 22), some 23, none⟩, []⟩,
  ⟨⟨.load false 1 (.slot 23), some 24, none⟩, []⟩,
  ⟨⟨.bin .eql 2 .num (.slot 19) (.slot 24), some 25, none⟩, []⟩]
def r45_6 : List XLine := [⟨⟨.mv (.slot 0), some 26, none⟩, []⟩,
  ⟨⟨.mv (.slot 3), some 27, none⟩, []⟩,
  ⟨⟨.slc 1 (.slot 26) (some (.slot 27)) none none, some 28, none⟩, []⟩,
  ⟨⟨.mv (.slot 28), some 4, none⟩, []⟩]
def r45_7 : List XLine := [⟨⟨.mv (.const (.int .i64 (.ofNat 1))), some 5, none⟩, []⟩]
def r45_8 : List XLine := [⟨⟨.mv (.slot 5), some 29, none⟩, []⟩,
  ⟨⟨.mv (.slot 4), some 30, none⟩, []⟩,
  ⟨⟨.len .slice (.slot 30), some 31, none⟩, []⟩,
  ⟨⟨.bin .lss 3 .num (.slot 29) (.slot 31), some 32, none⟩, []⟩]
def r45_9 : List XLine := [⟨⟨.mv (.slot 4), some 35, none⟩, []⟩,
  ⟨⟨.mv (.slot 5), some 36, none⟩, []⟩,
  ⟨⟨.iaddr 1 (.slot 35) (.slot 36), some 37, none⟩, []⟩,
  ⟨⟨.load false 1 (.slot 37), some 38, none⟩, []⟩,
  ⟨⟨.mv (.slot 4), some 39, none⟩, []⟩,
  ⟨⟨.mv (.slot 5), some 40, none⟩, []⟩,
  ⟨⟨.bin .sub 3 .num (.slot 40) (.const (.int .i64 (.ofNat 1))), some 41, none⟩, []⟩,
  ⟨⟨.iaddr 1 (.slot 39) (.slot 41), some 42, none⟩, []⟩,
  ⟨⟨.load false 1 (.slot 42), some 43, none⟩, []⟩,
  ⟨⟨.bin .neq 2 .num (.slot 38) (.slot 43), some 44, none⟩, []⟩]
def r45_10 : List XLine := [⟨⟨.mv (.slot 0), some 45, none⟩, []⟩,
  ⟨⟨.mv (.slot 3), some 46, none⟩, []⟩,
  ⟨⟨.mv (.slot 4), some 47, none⟩, []⟩,
  ⟨⟨.mv (.slot 5), some 48, none⟩, []⟩,
  ⟨⟨.iaddr 1 (.slot 47) (.slot 48), some 49, none⟩, []⟩,
  ⟨⟨.load false 1 (.slot 49), some 50, none⟩, []⟩,
  ⟨⟨.iaddr 1 (.slot 45) (.slot 46), some 51, none⟩, []⟩,
  ⟨⟨.store 1 (.slot 51) (.slot 50), none, none⟩, []⟩]
def r45_11 : List XLine := [⟨⟨.mv (.slot 3), some 52, none⟩, []⟩,
  ⟨⟨.bin .add 3 .num (.slot 52) (.const (.int .i64 (.ofNat 1))), some 53, none⟩, []⟩,
  ⟨⟨.mv (.slot 53), some 3, none⟩, []⟩]
def r45_12 : List XLine := [⟨⟨.mv (.slot 5), some 33, none⟩, []⟩,
  ⟨⟨.bin .add 3 .num (.slot 33) (.const (.int .i64 (.ofNat 1))), some 34, none⟩, []⟩,
  ⟨⟨.mv (.slot 34), some 5, none⟩, []⟩]
def r45_13 : List XLine := [⟨⟨.mv (.slot 0), some 54, none⟩, []⟩,
  ⟨⟨.mv (.slot 3), some 55, none⟩, []⟩,
  ⟨⟨.slc 1 (.slot 54) (some (.slot 55)) none none, some 56, none⟩, []⟩,
  ⟨⟨.clear [(.int .i64 (.ofNat 0))] (.slot 56), none, none⟩, []⟩]
def r45_14 : List XLine := [⟨⟨.mv (.slot 0), some 57, none⟩, []⟩,
  ⟨⟨.mv (.slot 3), some 58, none⟩, []⟩,
  ⟨⟨.slc 1 (.slot 57) none (some (.slot 58)) none, some 59, none⟩, []⟩,
  ⟨⟨.mv (.slot 59), some 2, none⟩, []⟩]
def r45_15 : List XLine := [⟨⟨.mv (.slot 3), some 14, none⟩, []⟩,
  ⟨⟨.bin .add 3 .num (.slot 14) (.const (.int .i64 (.ofNat 1))), some 15, none⟩, []⟩,
  ⟨⟨.mv (.slot 15), some 3, none⟩, []⟩]
def r45_16 : List XLine := [⟨⟨.mv (.slot 0), some 60, none⟩, []⟩,
  ⟨⟨.mv (.slot 60), some 2, none⟩, []⟩]
def xf45 : XFunc := ⟨(.seq (.region false r45_0)
  (.seq (.seq (.region false r45_1)
  (.cond (.slot 8)
  (.seq (.region false r45_2)
  .ret)
  .skip))
  (.seq (.seq (.region false r45_3)
  (.block 0 (.loop (.seq (.seq (.region false r45_4)
  (.cond (.slot 13)
  .skip
  (.exit 0)))
  (.seq (.block 1 (.seq (.region true r45_5)
  (.cond (.slot 25)
  (.seq (.region false r45_6)
  (.seq (.seq (.region false r45_7)
  (.block 2 (.loop (.seq (.seq (.region false r45_8)
  (.cond (.slot 32)
  .skip
  (.exit 2)))
  (.seq (.block 3 (.seq (.region true r45_9)
  (.cond (.slot 44)
  (.seq (.region false r45_10)
  (.region false r45_11))
  .skip)))
  (.region false r45_12))))))
  (.seq (.region false r45_13)
  (.seq (.region false r45_14)
  .ret))))
  .skip)))
  (.region false r45_15))))))
  (.seq (.region false r45_16)
  .ret)))),
  [.tmp 2]⟩
theorem xf45_ok : compFunc Tryz.prog Tryz.f45 = some xf45 := by kernel_rfl
/- (*threshing/base.Base).Delete -/
def r46_0 : List XLine := [⟨⟨.mv (.const (.int .i64 (.ofNat 0))), some 4, none⟩, []⟩]
def r46_1 : List XLine := [⟨⟨.mv (.slot 0), some 8, none⟩, []⟩,
  ⟨⟨.bin .eql 22 .ptr (.slot 8) (.const .nilp), some 9, none⟩, []⟩]
def r46_2 : List XLine := [⟨⟨.mv (.const (.int .i64 (.ofNat 1))), some 4, none⟩, []⟩]
def r46_3 : List XLine := [⟨⟨.mv (.slot 0), some 11, none⟩, []⟩,
  ⟨⟨.nilCheck (.slot 11), some 12, none⟩, []⟩,
  ⟨⟨.faddr 1 (.slot 12), some 13, none⟩, []⟩,
  ⟨⟨.load false 1 (.slot 13), some 14, none⟩, []⟩,
  ⟨⟨.mv (.slot 1), some 15, none⟩, []⟩,
  ⟨⟨.lookup .i64 (.agg [(.int .i64 (.ofNat 0)), .nils, (.bool false)]) (.slot 14) (.slot 15) true, some 16, none⟩, []⟩,
  ⟨⟨.mv (.slot 16), some 10, none⟩, []⟩,
  ⟨⟨.extract (.slot 10) 0, some 17, none⟩, []⟩,
  ⟨⟨.extract (.slot 10) 1, some 18, none⟩, []⟩,
  ⟨⟨.alloc [(.int .i64 (.ofNat 0)), .nils, (.bool false)], some 5, none⟩, []⟩,
  ⟨⟨.store 3 (.slot 5) (.slot 17), none, none⟩, []⟩,
  ⟨⟨.mv (.slot 18), some 6, none⟩, []⟩]
def r46_4 : List XLine := [⟨⟨.mv (.slot 6), some 20, none⟩, []⟩,
  ⟨⟨.un .not (.slot 20), some 21, none⟩, []⟩,
  ⟨⟨.mv (.slot 21), some 19, none⟩, []⟩]
def r46_5 : List XLine := [⟨⟨.mv (.const (.int .i64 (.ofNat 5))), some 4, none⟩, []⟩]
def r46_6 : List XLine := [⟨⟨.faddr 2 (.slot 5), some 23, none⟩, []⟩,
  ⟨⟨.load false 1 (.slot 23), some 24, none⟩, []⟩,
  ⟨⟨.un .not (.slot 24), some 25, none⟩, []⟩,
  ⟨⟨.mv (.slot 25), some 22, none⟩, []⟩]
def r46_7 : List XLine := [⟨⟨.mv (.const (.int .i64 (.ofNat 7))), some 4, none⟩, []⟩]
def r46_8 : List XLine := [⟨⟨.mv (.slot 0), some 26, none⟩, []⟩,
  ⟨⟨.load true 3 (.slot 5), some 27, none⟩, []⟩,
  ⟨⟨.call (.const (.func 74 [] [])) [(.slot 26), (.slot 27)], some 28, none⟩, []⟩,
  ⟨⟨.mv (.slot 28), some 7, none⟩, []⟩]
def r46_9 : List XLine := [⟨⟨.mv (.slot 7), some 29, none⟩, []⟩,
  ⟨⟨.bin .neq 27 .num (.slot 29) (.const (.int .i64 (.ofNat 0))), some 30, none⟩, []⟩]
def r46_10 : List XLine := [⟨⟨.mv (.slot 7), some 31, none⟩, []⟩,
  ⟨⟨.mv (.slot 31), some 4, none⟩, []⟩]
def r46_11 : List XLine := [⟨⟨.mv (.slot 0), some 32, none⟩, []⟩,
  ⟨⟨.mv (.slot 1), some 33, none⟩, []⟩,
  ⟨⟨.build [(.int .u8 (.ofNat 0)), (.int .i64 (.ofNat 0)), (.int .i64 (.ofNat 0)), (.bool false), .nils, .nils] [(0, 1, (.const (.int .u8 (.ofNat 3)))), (1, 1, (.slot 33))], some 34, none⟩, []⟩,
  ⟨⟨.call (.const (.func 69 [] [])) [(.slot 32), (.slot 34)], some 35, none⟩, []⟩,
  ⟨⟨.mv (.slot 35), some 4, none⟩, []⟩]
def xf46 : XFunc := ⟨(.seq (.region false r46_0)
  (.seq (.seq (.region false r46_1)
  (.cond (.slot 9)
  (.seq (.region false r46_2)
  .ret)
  .skip))
  (.seq (.region false r46_3)
  (.seq (.block 0 (.seq (.region false r46_4)
  (.cond (.slot 19)
  (.seq (.region false r46_5)
  .ret)
  (.seq (.region false r46_6)
  (.cond (.slot 22)
  (.seq (.region false r46_7)
  .ret)
  .skip)))))
  (.seq (.seq (.region false r46_8)
  (.seq (.region false r46_9)
  (.cond (.slot 30)
  (.seq (.region false r46_10)
  .ret)
  .skip)))
  (.seq (.region false r46_11)
  .ret)))))),
  [.tmp 4]⟩
theorem xf46_ok : compFunc Tryz.prog Tryz.f46 = some xf46 := by kernel_rfl
/- (*threshing/base.Base).Weaken -/
def r47_0 : List XLine := [⟨⟨.mv (.const (.int .i64 (.ofNat 0))), some 6, none⟩, []⟩]
def r47_1 : List XLine := [⟨⟨.mv (.slot 0), some 10, none⟩, []⟩,
  ⟨⟨.bin .eql 22 .ptr (.slot 10) (.const .nilp), some 11, none⟩, []⟩]
def r47_2 : List XLine := [⟨⟨.mv (.const (.int .i64 (.ofNat 1))), some 6, none⟩, []⟩]
def r47_3 : List XLine := [⟨⟨.mv (.slot 0), some 13, none⟩, []⟩,
  ⟨⟨.nilCheck (.slot 13), some 14, none⟩, []⟩,
  ⟨⟨.faddr 1 (.slot 14), some 15, none⟩, []⟩,
  ⟨⟨.load false 1 (.slot 15), some 16, none⟩, []⟩,
  ⟨⟨.mv (.slot 1), some 17, none⟩, []⟩,
  ⟨⟨.lookup .i64 (.agg [(.int .i64 (.ofNat 0)), .nils, (.bool false)]) (.slot 16) (.slot 17) true, some 18, none⟩, []⟩,
  ⟨⟨.mv (.slot 18), some 12, none⟩, []⟩,
  ⟨⟨.extract (.slot 12) 0, some 19, none⟩, []⟩,
  ⟨⟨.extract (.slot 12) 1, some 20, none⟩, []⟩,
  ⟨⟨.alloc [(.int .i64 (.ofNat 0)), .nils, (.bool false)], some 7, none⟩, []⟩,
  ⟨⟨.store 3 (.slot 7) (.slot 19), none, none⟩, []⟩,
  ⟨⟨.mv (.slot 20), some 8, none⟩, []⟩]
def r47_4 : List XLine := [⟨⟨.mv (.slot 8), some 22, none⟩, []⟩,
  ⟨⟨.un .not (.slot 22), some 23, none⟩, []⟩,
  ⟨⟨.mv (.slot 23), some 21, none⟩, []⟩]
def r47_5 : List XLine := [⟨⟨.mv (.const (.int .i64 (.ofNat 5))), some 6, none⟩, []⟩]
def r47_6 : List XLine := [⟨⟨.faddr 2 (.slot 7), some 25, none⟩, []⟩,
  ⟨⟨.load false 1 (.slot 25), some 26, none⟩, []⟩,
  ⟨⟨.mv (.slot 26), some 24, none⟩, []⟩]
def r47_7 : List XLine := [⟨⟨.mv (.const (.int .i64 (.ofNat 7))), some 6, none⟩, []⟩]
def r47_8 : List XLine := [⟨⟨.mv (.slot 0), some 28, none⟩, []⟩,
  ⟨⟨.mv (.slot 2), some 29, none⟩, []⟩,
  ⟨⟨.call (.const (.func 66 [] [])) [(.slot 28), (.slot 29)], some 30, none⟩, []⟩,
  ⟨⟨.un .not (.slot 30), some 31, none⟩, []⟩,
  ⟨⟨.mv (.slot 31), some 27, none⟩, []⟩]
def r47_9 : List XLine := [⟨⟨.mv (.const (.int .i64 (.ofNat 4))), some 6, none⟩, []⟩]
def r47_10 : List XLine := [⟨⟨.mv (.slot 2), some 33, none⟩, []⟩,
  ⟨⟨.len .slice (.slot 33), some 34, none⟩, []⟩,
  ⟨⟨.bin .eql 3 .num (.slot 34) (.const (.int .i64 (.ofNat 0))), some 35, none⟩, []⟩,
  ⟨⟨.mv (.slot 35), some 32, none⟩, []⟩]
def r47_11 : List XLine := [⟨⟨.mv (.slot 2), some 36, none⟩, []⟩,
  ⟨⟨.call (.const (.func 75 [] [])) [(.slot 36)], some 37, none⟩, []⟩,
  ⟨⟨.mv (.slot 37), some 32, none⟩, []⟩]
def r47_12 : List XLine := [⟨⟨.faddr 1 (.slot 7), some 38, none⟩, []⟩,
  ⟨⟨.load false 1 (.slot 38), some 39, none⟩, []⟩,
  ⟨⟨.mv (.slot 2), some 40, none⟩, []⟩,
  ⟨⟨.iaddr 1 (.slot 40) (.const (.int .i64 (.ofNat 0))), some 41, none⟩, []⟩,
  ⟨⟨.load false 1 (.slot 41), some 42, none⟩, []⟩,
  ⟨⟨.call (.const (.func 76 [] [])) [(.slot 39), (.slot 42)], some 43, none⟩, []⟩,
  ⟨⟨.un .not (.slot 43), some 44, none⟩, []⟩,
  ⟨⟨.mv (.slot 44), some 32, none⟩, []⟩]
def r47_13 : List XLine := [⟨⟨.mv (.const (.int .i64 (.ofNat 2))), some 6, none⟩, []⟩]
def r47_14 : List XLine := [⟨⟨.mv (.slot 0), some 45, none⟩, []⟩,
  ⟨⟨.load true 3 (.slot 7), some 46, none⟩, []⟩,
  ⟨⟨.call (.const (.func 74 [] [])) [(.slot 45), (.slot 46)], some 47, none⟩, []⟩,
  ⟨⟨.mv (.slot 47), some 9, none⟩, []⟩]
def r47_15 : List XLine := [⟨⟨.mv (.slot 9), some 48, none⟩, []⟩,
  ⟨⟨.bin .neq 27 .num (.slot 48) (.const (.int .i64 (.ofNat 0))), some 49, none⟩, []⟩]
def r47_16 : List XLine := [⟨⟨.mv (.slot 9), some 50, none⟩, []⟩,
  ⟨⟨.mv (.slot 50), some 6, none⟩, []⟩]
def r47_17 : List XLine := [⟨⟨.mv (.slot 0), some 51, none⟩, []⟩,
  ⟨⟨.mv (.slot 0), some 52, none⟩, []⟩,
  ⟨⟨.nilCheck (.slot 52), some 53, none⟩, []⟩,
  ⟨⟨.faddr 6 (.slot 53), some 54, none⟩, []⟩,
  ⟨⟨.load false 1 (.slot 54), some 55, none⟩, []⟩,
  ⟨⟨.mv (.slot 2), some 56, none⟩, []⟩,
  ⟨⟨.faddr 1 (.slot 7), some 58, none⟩, []⟩,
  ⟨⟨.load false 1 (.slot 58), some 59, none⟩, []⟩,
  ⟨⟨.call (.const (.func 48 [] [])) [(.slot 56)], some 57, none⟩, [⟨.load false 1 (.slot 54), some 55, none⟩, ⟨.load false 1 (.slot 58), some 59, none⟩]⟩,
  ⟨⟨.call (.const (.func 48 [] [])) [(.slot 59)], some 60, none⟩, [⟨.load false 1 (.slot 54), some 55, none⟩]⟩,
  ⟨⟨.build [.nils, .nils] [(0, 1, (.slot 57)), (1, 1, (.slot 60))], some 61, none⟩, []⟩,
  ⟨⟨.bslice 2 [.nils, .nils] [(0, 2, (.slot 61))] 1, some 62, none⟩, [⟨.load false 1 (.slot 54), some 55, none⟩]⟩,
  ⟨⟨.append 2 48 (.slot 55) (.slot 62), some 63, none⟩, []⟩,
  ⟨⟨.nilCheck (.slot 51), some 64, none⟩, []⟩,
  ⟨⟨.faddr 6 (.slot 64), some 65, none⟩, []⟩,
  ⟨⟨.store 1 (.slot 65) (.slot 63), none, none⟩, []⟩]
def r47_18 : List XLine := [⟨⟨.mv (.slot 0), some 66, none⟩, []⟩,
  ⟨⟨.mv (.slot 1), some 67, none⟩, []⟩,
  ⟨⟨.mv (.slot 2), some 68, none⟩, []⟩,
  ⟨⟨.call (.const (.func 48 [] [])) [(.slot 68)], some 69, none⟩, []⟩,
  ⟨⟨.build [(.int .u8 (.ofNat 0)), (.int .i64 (.ofNat 0)), (.int .i64 (.ofNat 0)), (.bool false), .nils, .nils] [(0, 1, (.const (.int .u8 (.ofNat 5)))), (1, 1, (.slot 67)), (4, 1, (.slot 69))], some 70, none⟩, []⟩,
  ⟨⟨.call (.const (.func 69 [] [])) [(.slot 66), (.slot 70)], some 71, none⟩, []⟩,
  ⟨⟨.mv (.slot 71), some 6, none⟩, []⟩]
def xf47 : XFunc := ⟨(.seq (.region false r47_0)
  (.seq (.seq (.region false r47_1)
  (.cond (.slot 11)
  (.seq (.region false r47_2)
  .ret)
  .skip))
  (.seq (.region false r47_3)
  (.seq (.block 0 (.seq (.region false r47_4)
  (.cond (.slot 21)
  (.seq (.region false r47_5)
  .ret)
  (.seq (.region false r47_6)
  (.cond (.slot 24)
  (.seq (.region false r47_7)
  .ret)
  (.seq (.region false r47_8)
  (.cond (.slot 27)
  (.seq (.region false r47_9)
  .ret)
  (.seq (.seq (.region false r47_10)
  (.cond (.slot 32)
  .skip
  (.seq (.region false r47_11)
  (.cond (.slot 32)
  .skip
  (.region true r47_12)))))
  (.cond (.slot 32)
  (.seq (.region false r47_13)
  .ret)
  .skip)))))))))
  (.seq (.seq (.region false r47_14)
  (.seq (.region false r47_15)
  (.cond (.slot 49)
  (.seq (.region false r47_16)
  .ret)
  .skip)))
  (.seq (.region true r47_17)
  (.seq (.region false r47_18)
  .ret))))))),
  [.tmp 6]⟩
theorem xf47_ok : compFunc Tryz.prog Tryz.f47 = some xf47 := by kernel_rfl
/- slices.Clone[threshing/api.Clause,threshing/api.Lit] -/
def r48_0 : List XLine := [⟨⟨.mv (.const .nils), some 2, none⟩, []⟩]
def r48_1 : List XLine := [⟨⟨.mv (.slot 0), some 3, none⟩, []⟩,
  ⟨⟨.bin .eql 26 .slice (.slot 3) (.const .nils), some 4, none⟩, []⟩]
def r48_2 : List XLine := [⟨⟨.mv (.const .nils), some 2, none⟩, []⟩]
def r48_3 : List XLine := [⟨⟨.bslice 1 [] [] 0, some 5, none⟩, []⟩,
  ⟨⟨.mv (.slot 0), some 6, none⟩, []⟩,
  ⟨⟨.append 1 4 (.slot 5) (.slot 6), some 7, none⟩, []⟩,
  ⟨⟨.mv (.slot 7), some 2, none⟩, []⟩]
def xf48 : XFunc := ⟨(.seq (.region false r48_0)
  (.seq (.seq (.region false r48_1)
  (.cond (.slot 4)
  (.seq (.region false r48_2)
  .ret)
  .skip))
  (.seq (.region false r48_3)
  .ret))),
  [.tmp 2]⟩
theorem xf48_ok : compFunc Tryz.prog Tryz.f48 = some xf48 := by kernel_rfl
/- slices.AppendSeq[[]int64,int64] -/
def r49_0 : List XLine := [⟨⟨.box (.slot 0), some 2, none⟩, []⟩,
  ⟨⟨.mv (.const .nils), some 4, none⟩, []⟩]
def r49_1 : List XLine := [⟨⟨.mv (.slot 1), some 6, none⟩, []⟩]
def r49_2 : List XLine := [⟨⟨.mv (.slot 7), some 5, none⟩, []⟩]
def r49_3 : List XLine := [⟨⟨.load false 1 (.slot 2), some 8, none⟩, []⟩,
  ⟨⟨.mv (.slot 5), some 9, none⟩, []⟩,
  ⟨⟨.bslice 1 [(.int .i64 (.ofNat 0))] [(0, 1, (.slot 9))] 1, some 10, none⟩, []⟩,
  ⟨⟨.append 1 8 (.slot 8) (.slot 10), some 11, none⟩, []⟩,
  ⟨⟨.store 1 (.slot 2) (.slot 11), none, none⟩, []⟩]
def r49_4 : List XLine := [⟨⟨.load false 1 (.slot 2), some 12, none⟩, []⟩,
  ⟨⟨.mv (.slot 12), some 4, none⟩, []⟩]
def xf49 : XFunc := ⟨(.seq (.region false r49_0)
  (.seq (.seq (.region false r49_1)
  (.block 0 (.rangeFunc (.slot 6) [7] (.region false r49_2)
  (.block 1 (.region false r49_3)))))
  (.seq (.region false r49_4)
  .ret))),
  [.tmp 4]⟩
theorem xf49_ok : compFunc Tryz.prog Tryz.f49 = some xf49 := by kernel_rfl
/- maps.Keys[map[int64]bool,int64,bool]$1 -/
def r50_0 : List XLine := [⟨⟨.load false 1 (.slot 1), some 4, none⟩, []⟩,
  ⟨⟨.range .i64 (.slot 4), some 5, none⟩, []⟩]
def r50_1 : List XLine := [⟨⟨.next (.slot 5), some 6, none⟩, []⟩,
  ⟨⟨.extract (.slot 6) 0, some 7, none⟩, []⟩]
def r50_2 : List XLine := [⟨⟨.entry (.slot 5), some 8, none⟩, []⟩,
  ⟨⟨.extract (.slot 8) 0, some 9, none⟩, []⟩,
  ⟨⟨.mv (.slot 9), some 3, none⟩, []⟩]
def r50_3 : List XLine := [⟨⟨.mv (.slot 0), some 10, none⟩, []⟩,
  ⟨⟨.mv (.slot 3), some 11, none⟩, []⟩,
  ⟨⟨.call (.slot 10) [(.slot 11)], some 12, none⟩, []⟩,
  ⟨⟨.un .not (.slot 12), some 13, none⟩, []⟩]
def xf50 : XFunc := ⟨(.seq (.region false r50_0)
  (.block 0 (.loop (.seq (.region false r50_1)
  (.seq (.cond (.slot 7)
  .skip
  (.exit 0))
  (.block 1 (.seq (.region false r50_2)
  (.seq (.region false r50_3)
  (.cond (.slot 13)
  .ret
  .skip))))))))),
  []⟩
theorem xf50_ok : compFunc Tryz.prog Tryz.f50 = some xf50 := by kernel_rfl
/- maps.Keys[map[int64]threshing/api.Entry,int64,threshing/api.Entry]$1 -/
def r51_0 : List XLine := [⟨⟨.load false 1 (.slot 1), some 4, none⟩, []⟩,
  ⟨⟨.range .i64 (.slot 4), some 5, none⟩, []⟩]
def r51_1 : List XLine := [⟨⟨.next (.slot 5), some 6, none⟩, []⟩,
  ⟨⟨.extract (.slot 6) 0, some 7, none⟩, []⟩]
def r51_2 : List XLine := [⟨⟨.entry (.slot 5), some 8, none⟩, []⟩,
  ⟨⟨.extract (.slot 8) 0, some 9, none⟩, []⟩,
  ⟨⟨.mv (.slot 9), some 3, none⟩, []⟩]
def r51_3 : List XLine := [⟨⟨.mv (.slot 0), some 10, none⟩, []⟩,
  ⟨⟨.mv (.slot 3), some 11, none⟩, []⟩,
  ⟨⟨.call (.slot 10) [(.slot 11)], some 12, none⟩, []⟩,
  ⟨⟨.un .not (.slot 12), some 13, none⟩, []⟩]
def xf51 : XFunc := ⟨(.seq (.region false r51_0)
  (.block 0 (.loop (.seq (.region false r51_1)
  (.seq (.cond (.slot 7)
  .skip
  (.exit 0))
  (.block 1 (.seq (.region false r51_2)
  (.seq (.region false r51_3)
  (.cond (.slot 13)
  .ret
  .skip))))))))),
  []⟩
theorem xf51_ok : compFunc Tryz.prog Tryz.f51 = some xf51 := by kernel_rfl
/- slices.Clone[[]threshing/api.Witness,threshing/api.Witness] -/
def r52_0 : List XLine := [⟨⟨.mv (.const .nils), some 2, none⟩, []⟩]
def r52_1 : List XLine := [⟨⟨.mv (.slot 0), some 3, none⟩, []⟩,
  ⟨⟨.bin .eql 68 .slice (.slot 3) (.const .nils), some 4, none⟩, []⟩]
def r52_2 : List XLine := [⟨⟨.mv (.const .nils), some 2, none⟩, []⟩]
def r52_3 : List XLine := [⟨⟨.bslice 2 [] [] 0, some 5, none⟩, []⟩,
  ⟨⟨.mv (.slot 0), some 6, none⟩, []⟩,
  ⟨⟨.append 2 48 (.slot 5) (.slot 6), some 7, none⟩, []⟩,
  ⟨⟨.mv (.slot 7), some 2, none⟩, []⟩]
def xf52 : XFunc := ⟨(.seq (.region false r52_0)
  (.seq (.seq (.region false r52_1)
  (.cond (.slot 4)
  (.seq (.region false r52_2)
  .ret)
  .skip))
  (.seq (.region false r52_3)
  .ret))),
  [.tmp 2]⟩
theorem xf52_ok : compFunc Tryz.prog Tryz.f52 = some xf52 := by kernel_rfl
/- slices.SortFunc[threshing/api.Clause,threshing/api.Lit] -/
def r53_0 : List XLine := [⟨⟨.mv (.slot 0), some 5, none⟩, []⟩,
  ⟨⟨.len .slice (.slot 5), some 6, none⟩, []⟩,
  ⟨⟨.mv (.slot 6), some 4, none⟩, []⟩]
def r53_1 : List XLine := [⟨⟨.mv (.slot 0), some 7, none⟩, []⟩,
  ⟨⟨.mv (.slot 4), some 8, none⟩, []⟩,
  ⟨⟨.mv (.slot 4), some 9, none⟩, []⟩,
  ⟨⟨.conv .u64 (.slot 9), some 10, none⟩, []⟩,
  ⟨⟨.call (.const (.func 73 [] [])) [(.slot 10)], some 11, none⟩, []⟩,
  ⟨⟨.mv (.slot 1), some 12, none⟩, []⟩,
  ⟨⟨.call (.const (.func 77 [] [])) [(.slot 7), (.const (.int .i64 (.ofNat 0))), (.slot 8), (.slot 11), (.slot 12)], some 13, none⟩, []⟩]
def xf53 : XFunc := ⟨(.seq (.region false r53_0)
  (.region false r53_1)),
  []⟩
theorem xf53_ok : compFunc Tryz.prog Tryz.f53 = some xf53 := by kernel_rfl
/- threshing/cnf.order -/
def r54_0 : List XLine := [⟨⟨.mv (.const (.int .i64 (.ofNat 0))), some 4, none⟩, []⟩]
def r54_1 : List XLine := [⟨⟨.mv (.slot 0), some 5, none⟩, []⟩,
  ⟨⟨.call (.const (.func 19 [] [])) [(.slot 5)], some 6, none⟩, []⟩,
  ⟨⟨.mv (.slot 1), some 7, none⟩, []⟩,
  ⟨⟨.call (.const (.func 19 [] [])) [(.slot 7)], some 8, none⟩, []⟩,
  ⟨⟨.call (.const (.func 79 [] [])) [(.slot 6), (.slot 8)], some 9, none⟩, []⟩,
  ⟨⟨.mv (.slot 0), some 10, none⟩, []⟩,
  ⟨⟨.mv (.slot 1), some 11, none⟩, []⟩,
  ⟨⟨.call (.const (.func 80 [] [])) [(.slot 10), (.slot 11)], some 12, none⟩, []⟩,
  ⟨⟨.bslice 1 [(.int .i64 (.ofNat 0)), (.int .i64 (.ofNat 0))] [(0, 1, (.slot 9)), (1, 1, (.slot 12))] 2, some 13, none⟩, []⟩,
  ⟨⟨.call (.const (.func 78 [] [])) [(.slot 13)], some 14, none⟩, []⟩,
  ⟨⟨.mv (.slot 14), some 4, none⟩, []⟩]
def xf54 : XFunc := ⟨(.seq (.region false r54_0)
  (.seq (.region false r54_1)
  .ret)),
  [.tmp 4]⟩
theorem xf54_ok : compFunc Tryz.prog Tryz.f54 = some xf54 := by kernel_rfl
/- slices.Compact[threshing/api.Clause,threshing/api.Lit] -/
def r55_0 : List XLine := [⟨⟨.mv (.const .nils), some 2, none⟩, []⟩]
def r55_1 : List XLine := [⟨⟨.mv (.slot 0), some 6, none⟩, []⟩,
  ⟨⟨.len .slice (.slot 6), some 7, none⟩, []⟩,
  ⟨⟨.bin .lss 3 .num (.slot 7) (.const (.int .i64 (.ofNat 2))), some 8, none⟩, []⟩]
def r55_2 : List XLine := [⟨⟨.mv (.slot 0), some 9, none⟩, []⟩,
  ⟨⟨.mv (.slot 9), some 2, none⟩, []⟩]
def r55_3 : List XLine := [⟨⟨.mv (.const (.int .i64 (.ofNat 1))), some 3, none⟩, []⟩]
def r55_4 : List XLine := [⟨⟨.mv (.slot 3), some 10, none⟩, []⟩,
  ⟨⟨.mv (.slot 0), some 11, none⟩, []⟩,
  ⟨⟨.len .slice (.slot 11), some 12, none⟩, []⟩,
  ⟨⟨.bin .lss 3 .num (.slot 10) (.slot 12), some 13, none⟩, []⟩]
def r55_5 : List XLine := [⟨⟨.mv (.slot 0), some 16, none⟩, []⟩,
  ⟨⟨.mv (.slot 3), some 17, none⟩, []⟩,
  ⟨⟨.iaddr 1 (.slot 16) (.slot 17), some 18, none⟩, []⟩,
  ⟨⟨.load false 1 (.slot 18), some 19, none⟩, []⟩,
  ⟨⟨.mv (.slot 0), some 20, none⟩, []⟩,
  ⟨⟨.mv (.slot 3), some 21, none⟩, []⟩,
  ⟨⟨.bin .sub 3 .num (.slot 21) (.const (.int .i64 (.ofNat 1))), some 22, none⟩, []⟩,
  ⟨⟨.iaddr 1 (.slot 20) (.slot 22), some 23, none⟩, []⟩,
  ⟨⟨.load false 1 (.slot 23), some 24, none⟩, []⟩,
  ⟨⟨.bin .eql 24 .num (.slot 19) (.slot 24), some 25, none⟩, []⟩]
def r55_6 : List XLine := [⟨⟨.mv (.slot 0), some 26, none⟩, []⟩,
  ⟨⟨.mv (.slot 3), some 27, none⟩, []⟩,
  ⟨⟨.slc 1 (.slot 26) (some (.slot 27)) none none, some 28, none⟩, []⟩,
  ⟨⟨.mv (.slot 28), some 4, none⟩, []⟩]
def r55_7 : List XLine := [⟨⟨.mv (.const (.int .i64 (.ofNat 1))), some 5, none⟩, []⟩]
def r55_8 : List XLine := [⟨⟨.mv (.slot 5), some 29, none⟩, []⟩,
  ⟨⟨.mv (.slot 4), some 30, none⟩, []⟩,
  ⟨⟨.len .slice (.slot 30), some 31, none⟩, []⟩,
  ⟨⟨.bin .lss 3 .num (.slot 29) (.slot 31), some 32, none⟩, []⟩]
def r55_9 : List XLine := [⟨⟨.mv (.slot 4), some 35, none⟩, []⟩,
  ⟨⟨.mv (.slot 5), some 36, none⟩, []⟩,
  ⟨⟨.iaddr 1 (.slot 35) (.slot 36), some 37, none⟩, []⟩,
  ⟨⟨.load false 1 (.slot 37), some 38, none⟩, []⟩,
  ⟨⟨.mv (.slot 4), some 39, none⟩, []⟩,
  ⟨⟨.mv (.slot 5), some 40, none⟩, []⟩,
  ⟨⟨.bin .sub 3 .num (.slot 40) (.const (.int .i64 (.ofNat 1))), some 41, none⟩, []⟩,
  ⟨⟨.iaddr 1 (.slot 39) (.slot 41), some 42, none⟩, []⟩,
  ⟨⟨.load false 1 (.slot 42), some 43, none⟩, []⟩,
  ⟨⟨.bin .neq 24 .num (.slot 38) (.slot 43), some 44, none⟩, []⟩]
def r55_10 : List XLine := [⟨⟨.mv (.slot 0), some 45, none⟩, []⟩,
  ⟨⟨.mv (.slot 3), some 46, none⟩, []⟩,
  ⟨⟨.mv (.slot 4), some 47, none⟩, []⟩,
  ⟨⟨.mv (.slot 5), some 48, none⟩, []⟩,
  ⟨⟨.iaddr 1 (.slot 47) (.slot 48), some 49, none⟩, []⟩,
  ⟨⟨.load false 1 (.slot 49), some 50, none⟩, []⟩,
  ⟨⟨.iaddr 1 (.slot 45) (.slot 46), some 51, none⟩, []⟩,
  ⟨⟨.store 1 (.slot 51) (.slot 50), none, none⟩, []⟩]
def r55_11 : List XLine := [⟨⟨.mv (.slot 3), some 52, none⟩, []⟩,
  ⟨⟨.bin .add 3 .num (.slot 52) (.const (.int .i64 (.ofNat 1))), some 53, none⟩, []⟩,
  ⟨⟨.mv (.slot 53), some 3, none⟩, []⟩]
def r55_12 : List XLine := [⟨⟨.mv (.slot 5), some 33, none⟩, []⟩,
  ⟨⟨.bin .add 3 .num (.slot 33) (.const (.int .i64 (.ofNat 1))), some 34, none⟩, []⟩,
  ⟨⟨.mv (.slot 34), some 5, none⟩, []⟩]
def r55_13 : List XLine := [⟨⟨.mv (.slot 0), some 54, none⟩, []⟩,
  ⟨⟨.mv (.slot 3), some 55, none⟩, []⟩,
  ⟨⟨.slc 1 (.slot 54) (some (.slot 55)) none none, some 56, none⟩, []⟩,
  ⟨⟨.clear [(.int .i32 (.ofNat 0))] (.slot 56), none, none⟩, []⟩]
def r55_14 : List XLine := [⟨⟨.mv (.slot 0), some 57, none⟩, []⟩,
  ⟨⟨.mv (.slot 3), some 58, none⟩, []⟩,
  ⟨⟨.slc 1 (.slot 57) none (some (.slot 58)) none, some 59, none⟩, []⟩,
  ⟨⟨.mv (.slot 59), some 2, none⟩, []⟩]
def r55_15 : List XLine := [⟨⟨.mv (.slot 3), some 14, none⟩, []⟩,
  ⟨⟨.bin .add 3 .num (.slot 14) (.const (.int .i64 (.ofNat 1))), some 15, none⟩, []⟩,
  ⟨⟨.mv (.slot 15), some 3, none⟩, []⟩]
def r55_16 : List XLine := [⟨⟨.mv (.slot 0), some 60, none⟩, []⟩,
  ⟨⟨.mv (.slot 60), some 2, none⟩, []⟩]
def xf55 : XFunc := ⟨(.seq (.region false r55_0)
  (.seq (.seq (.region false r55_1)
  (.cond (.slot 8)
  (.seq (.region false r55_2)
  .ret)
  .skip))
  (.seq (.seq (.region false r55_3)
  (.block 0 (.loop (.seq (.seq (.region false r55_4)
  (.cond (.slot 13)
  .skip
  (.exit 0)))
  (.seq (.block 1 (.seq (.region true r55_5)
  (.cond (.slot 25)
  (.seq (.region false r55_6)
  (.seq (.seq (.region false r55_7)
  (.block 2 (.loop (.seq (.seq (.region false r55_8)
  (.cond (.slot 32)
  .skip
  (.exit 2)))
  (.seq (.block 3 (.seq (.region true r55_9)
  (.cond (.slot 44)
  (.seq (.region false r55_10)
  (.region false r55_11))
  .skip)))
  (.region false r55_12))))))
  (.seq (.region false r55_13)
  (.seq (.region false r55_14)
  .ret))))
  .skip)))
  (.region false r55_15))))))
  (.seq (.region false r55_16)
  .ret)))),
  [.tmp 2]⟩
theorem xf55_ok : compFunc Tryz.prog Tryz.f55 = some xf55 := by kernel_rfl
/- slices.Clip[threshing/api.Clause,threshing/api.Lit] -/
def r56_0 : List XLine := [⟨⟨.mv (.const .nils), some 2, none⟩, []⟩]
def r56_1 : List XLine := [⟨⟨.mv (.slot 0), some 3, none⟩, []⟩,
  ⟨⟨.mv (.slot 0), some 4, none⟩, []⟩,
  ⟨⟨.len .slice (.slot 4), some 5, none⟩, []⟩,
  ⟨⟨.mv (.slot 0), some 6, none⟩, []⟩,
  ⟨⟨.len .slice (.slot 6), some 7, none⟩, []⟩,
  ⟨⟨.slc 1 (.slot 3) none (some (.slot 5)) (some (.slot 7)), some 8, none⟩, []⟩,
  ⟨⟨.mv (.slot 8), some 2, none⟩, []⟩]
def xf56 : XFunc := ⟨(.seq (.region false r56_0)
  (.seq (.region false r56_1)
  .ret)),
  [.tmp 2]⟩
theorem xf56_ok : compFunc Tryz.prog Tryz.f56 = some xf56 := by kernel_rfl
/- container/heap.down -/
def r57_0 : List XLine := [⟨⟨.mv (.const (.bool false)), some 6, none⟩, []⟩]
def r57_1 : List XLine := [⟨⟨.mv (.slot 1), some 11, none⟩, []⟩,
  ⟨⟨.mv (.slot 11), some 7, none⟩, []⟩]
def r57_2 : List XLine := [⟨⟨.mv (.slot 7), some 12, none⟩, []⟩,
  ⟨⟨.bin .mul 3 .num (.const (.int .i64 (.ofNat 2))) (.slot 12), some 13, none⟩, []⟩,
  ⟨⟨.bin .add 3 .num (.slot 13) (.const (.int .i64 (.ofNat 1))), some 14, none⟩, []⟩,
  ⟨⟨.mv (.slot 14), some 8, none⟩, []⟩]
def r57_3 : List XLine := [⟨⟨.mv (.slot 8), some 15, none⟩, []⟩,
  ⟨⟨.mv (.slot 2), some 16, none⟩, []⟩,
  ⟨⟨.bin .geq 3 .num (.slot 15) (.slot 16), some 17, none⟩, []⟩,
  ⟨⟨.mv (.slot 17), some 18, none⟩, []⟩,
  ⟨⟨.mv (.slot 8), some 19, some (18, false)⟩, []⟩,
  ⟨⟨.bin .lss 3 .num (.slot 19) (.const (.int .i64 (.ofNat 0))), some 20, some (18, false)⟩, []⟩,
  ⟨⟨.pick (.slot 18) (.const (.bool true)) (.slot 20), some 21, none⟩, []⟩]
def r57_4 : List XLine := [⟨⟨.mv (.slot 8), some 22, none⟩, []⟩,
  ⟨⟨.mv (.slot 22), some 9, none⟩, []⟩]
def r57_5 : List XLine := [⟨⟨.mv (.slot 8), some 23, none⟩, []⟩,
  ⟨⟨.bin .add 3 .num (.slot 23) (.const (.int .i64 (.ofNat 1))), some 24, none⟩, []⟩,
  ⟨⟨.mv (.slot 24), some 10, none⟩, []⟩]
def r57_6 : List XLine := [⟨⟨.mv (.slot 10), some 25, none⟩, []⟩,
  ⟨⟨.mv (.slot 2), some 26, none⟩, []⟩,
  ⟨⟨.bin .lss 3 .num (.slot 25) (.slot 26), some 27, none⟩, []⟩,
  ⟨⟨.mv (.slot 27), some 28, none⟩, []⟩,
  ⟨⟨.mv (.slot 0), some 29, some (28, true)⟩, []⟩,
  ⟨⟨.mv (.slot 10), some 30, some (28, true)⟩, []⟩,
  ⟨⟨.mv (.slot 8), some 31, some (28, true)⟩, []⟩,
  ⟨⟨.invoke (.slot 29) [(89, 138, none), (93, 138, some (false, 1))] [(.slot 30), (.slot 31)], some 32, some (28, true)⟩, []⟩,
  ⟨⟨.pick (.slot 28) (.slot 32) (.const (.bool false)), some 33, none⟩, []⟩]
def r57_7 : List XLine := [⟨⟨.mv (.slot 10), some 34, none⟩, []⟩,
  ⟨⟨.mv (.slot 34), some 9, none⟩, []⟩]
def r57_8 : List XLine := [⟨⟨.mv (.slot 0), some 35, none⟩, []⟩,
  ⟨⟨.mv (.slot 9), some 36, none⟩, []⟩,
  ⟨⟨.mv (.slot 7), some 37, none⟩, []⟩,
  ⟨⟨.invoke (.slot 35) [(89, 138, none), (93, 138, some (false, 1))] [(.slot 36), (.slot 37)], some 38, none⟩, []⟩,
  ⟨⟨.un .not (.slot 38), some 39, none⟩, []⟩]
def r57_9 : List XLine := [⟨⟨.mv (.slot 0), some 40, none⟩, []⟩,
  ⟨⟨.mv (.slot 7), some 41, none⟩, []⟩,
  ⟨⟨.mv (.slot 9), some 42, none⟩, []⟩,
  ⟨⟨.invoke (.slot 40) [(89, 139, none), (93, 139, some (false, 1))] [(.slot 41), (.slot 42)], some 43, none⟩, []⟩]
def r57_10 : List XLine := [⟨⟨.mv (.slot 9), some 44, none⟩, []⟩,
  ⟨⟨.mv (.slot 44), some 7, none⟩, []⟩]
def r57_11 : List XLine := [⟨⟨.mv (.slot 7), some 45, none⟩, []⟩,
  ⟨⟨.mv (.slot 1), some 46, none⟩, []⟩,
  ⟨⟨.bin .gtr 3 .num (.slot 45) (.slot 46), some 47, none⟩, []⟩,
  ⟨⟨.mv (.slot 47), some 6, none⟩, []⟩]
def xf57 : XFunc := ⟨(.seq (.region false r57_0)
  (.seq (.region false r57_1)
  (.seq (.block 0 (.loop (.block 1 (.seq (.region false r57_2)
  (.seq (.seq (.region false r57_3)
  (.cond (.slot 21)
  (.exit 0)
  .skip))
  (.seq (.region false r57_4)
  (.seq (.seq (.region false r57_5)
  (.seq (.region false r57_6)
  (.cond (.slot 33)
  (.region false r57_7)
  .skip)))
  (.seq (.seq (.region false r57_8)
  (.cond (.slot 39)
  (.exit 0)
  .skip))
  (.seq (.region false r57_9)
  (.region false r57_10))))))))))
  (.seq (.region false r57_11)
  .ret)))),
  [.tmp 6]⟩
theorem xf57_ok : compFunc Tryz.prog Tryz.f57 = some xf57 := by kernel_rfl
/- container/heap.Push -/
def r58_0 : List XLine := [⟨⟨.mv (.slot 0), some 4, none⟩, []⟩,
  ⟨⟨.mv (.slot 1), some 5, none⟩, []⟩,
  ⟨⟨.invoke (.slot 4) [(93, 141, none)] [(.slot 5)], some 6, none⟩, []⟩]
def r58_1 : List XLine := [⟨⟨.mv (.slot 0), some 7, none⟩, []⟩,
  ⟨⟨.mv (.slot 0), some 8, none⟩, []⟩,
  ⟨⟨.invoke (.slot 8) [(17, 133, none), (89, 59, none), (93, 59, some (false, 1))] [], some 9, none⟩, []⟩,
  ⟨⟨.bin .sub 3 .num (.slot 9) (.const (.int .i64 (.ofNat 1))), some 10, none⟩, []⟩,
  ⟨⟨.call (.const (.func 81 [] [])) [(.slot 7), (.slot 10)], some 11, none⟩, []⟩]
def xf58 : XFunc := ⟨(.seq (.region false r58_0)
  (.region false r58_1)),
  []⟩
theorem xf58_ok : compFunc Tryz.prog Tryz.f58 = some xf58 := by kernel_rfl
/- (threshing/unit.ids).Len -/
def r59_0 : List XLine := [⟨⟨.mv (.const (.int .i64 (.ofNat 0))), some 2, none⟩, []⟩]
def r59_1 : List XLine := [⟨⟨.mv (.slot 0), some 3, none⟩, []⟩,
  ⟨⟨.len .slice (.slot 3), some 4, none⟩, []⟩,
  ⟨⟨.mv (.slot 4), some 2, none⟩, []⟩]
def xf59 : XFunc := ⟨(.seq (.region false r59_0)
  (.seq (.region false r59_1)
  .ret)),
  [.tmp 2]⟩
theorem xf59_ok : compFunc Tryz.prog Tryz.f59 = some xf59 := by kernel_rfl
/- container/heap.Pop -/
def r60_0 : List XLine := [⟨⟨.mv (.const .nili), some 2, none⟩, []⟩]
def r60_1 : List XLine := [⟨⟨.mv (.slot 0), some 4, none⟩, []⟩,
  ⟨⟨.invoke (.slot 4) [(17, 133, none), (89, 59, none), (93, 59, some (false, 1))] [], some 5, none⟩, []⟩,
  ⟨⟨.bin .sub 3 .num (.slot 5) (.const (.int .i64 (.ofNat 1))), some 6, none⟩, []⟩,
  ⟨⟨.mv (.slot 6), some 3, none⟩, []⟩]
def r60_2 : List XLine := [⟨⟨.mv (.slot 0), some 7, none⟩, []⟩,
  ⟨⟨.mv (.slot 3), some 8, none⟩, []⟩,
  ⟨⟨.invoke (.slot 7) [(89, 139, none), (93, 139, some (false, 1))] [(.const (.int .i64 (.ofNat 0))), (.slot 8)], some 9, none⟩, []⟩]
def r60_3 : List XLine := [⟨⟨.mv (.slot 0), some 10, none⟩, []⟩,
  ⟨⟨.mv (.slot 3), some 11, none⟩, []⟩,
  ⟨⟨.call (.const (.func 57 [] [])) [(.slot 10), (.const (.int .i64 (.ofNat 0))), (.slot 11)], some 12, none⟩, []⟩]
def r60_4 : List XLine := [⟨⟨.mv (.slot 0), some 13, none⟩, []⟩,
  ⟨⟨.invoke (.slot 13) [(93, 140, none)] [], some 14, none⟩, []⟩,
  ⟨⟨.mv (.slot 14), some 2, none⟩, []⟩]
def xf60 : XFunc := ⟨(.seq (.region false r60_0)
  (.seq (.region false r60_1)
  (.seq (.region false r60_2)
  (.seq (.region false r60_3)
  (.seq (.region false r60_4)
  .ret))))),
  [.tmp 2]⟩
theorem xf60_ok : compFunc Tryz.prog Tryz.f60 = some xf60 := by kernel_rfl
/- (*threshing/unit.state).next$1 -/
def r61_0 : List XLine := [⟨⟨.mv (.const (.bool false)), some 3, none⟩, []⟩]
def r61_1 : List XLine := [⟨⟨.load false 1 (.slot 1), some 4, none⟩, []⟩,
  ⟨⟨.nilCheck (.slot 4), some 5, none⟩, []⟩,
  ⟨⟨.faddr 3 (.slot 5), some 6, none⟩, []⟩,
  ⟨⟨.load false 1 (.slot 6), some 7, none⟩, []⟩,
  ⟨⟨.mv (.slot 0), some 8, none⟩, []⟩,
  ⟨⟨.lookup .i32 (.bool false) (.slot 7) (.slot 8) false, some 9, none⟩, []⟩,
  ⟨⟨.mv (.slot 9), some 3, none⟩, []⟩]
def xf61 : XFunc := ⟨(.seq (.region false r61_0)
  (.seq (.region false r61_1)
  .ret)),
  [.tmp 3]⟩
theorem xf61_ok : compFunc Tryz.prog Tryz.f61 = some xf61 := by kernel_rfl
/- slices.ContainsFunc[threshing/api.Clause,threshing/api.Lit] -/
def r62_0 : List XLine := [⟨⟨.mv (.const (.bool false)), some 4, none⟩, []⟩]
def r62_1 : List XLine := [⟨⟨.mv (.slot 0), some 5, none⟩, []⟩,
  ⟨⟨.mv (.slot 1), some 6, none⟩, []⟩,
  ⟨⟨.call (.const (.func 63 [] [])) [(.slot 5), (.slot 6)], some 7, none⟩, []⟩,
  ⟨⟨.bin .geq 3 .num (.slot 7) (.const (.int .i64 (.ofNat 0))), some 8, none⟩, []⟩,
  ⟨⟨.mv (.slot 8), some 4, none⟩, []⟩]
def xf62 : XFunc := ⟨(.seq (.region false r62_0)
  (.seq (.region false r62_1)
  .ret)),
  [.tmp 4]⟩
theorem xf62_ok : compFunc Tryz.prog Tryz.f62 = some xf62 := by kernel_rfl
/- slices.IndexFunc[threshing/api.Clause,threshing/api.Lit] -/
def r63_0 : List XLine := [⟨⟨.mv (.const (.int .i64 (.ofNat 0))), some 4, none⟩, []⟩]
def r63_1 : List XLine := [⟨⟨.mv (.slot 0), some 6, none⟩, []⟩,
  ⟨⟨.len .slice (.slot 6), some 7, none⟩, []⟩,
  ⟨⟨.mv (.const (.int .i64 (.ofNat 0))), some 8, none⟩, []⟩]
def r63_2 : List XLine := [⟨⟨.bin .lss 3 .num (.slot 8) (.slot 7), some 9, none⟩, []⟩]
def r63_3 : List XLine := [⟨⟨.mv (.slot 8), some 10, none⟩, []⟩,
  ⟨⟨.mv (.slot 10), some 5, none⟩, []⟩]
def r63_4 : List XLine := [⟨⟨.mv (.slot 1), some 11, none⟩, []⟩,
  ⟨⟨.mv (.slot 0), some 12, none⟩, []⟩,
  ⟨⟨.mv (.slot 5), some 13, none⟩, []⟩,
  ⟨⟨.iaddr 1 (.slot 12) (.slot 13), some 14, none⟩, []⟩,
  ⟨⟨.load false 1 (.slot 14), some 15, none⟩, []⟩,
  ⟨⟨.call (.slot 11) [(.slot 15)], some 16, none⟩, []⟩]
def r63_5 : List XLine := [⟨⟨.mv (.slot 5), some 17, none⟩, []⟩,
  ⟨⟨.mv (.slot 17), some 4, none⟩, []⟩]
def r63_6 : List XLine := [⟨⟨.bin .add 3 .num (.slot 8) (.const (.int .i64 (.ofNat 1))), some 18, none⟩, []⟩,
  ⟨⟨.mv (.slot 18), some 8, none⟩, []⟩]
def r63_7 : List XLine := [⟨⟨.mv (.const (.int .i64 (.negSucc 0))), some 4, none⟩, []⟩]
def xf63 : XFunc := ⟨(.seq (.region false r63_0)
  (.seq (.seq (.region false r63_1)
  (.block 0 (.loop (.seq (.region false r63_2)
  (.seq (.cond (.slot 9)
  .skip
  (.exit 0))
  (.seq (.block 1 (.seq (.region false r63_3)
  (.seq (.region false r63_4)
  (.cond (.slot 16)
  (.seq (.region false r63_5)
  .ret)
  .skip))))
  (.region false r63_6)))))))
  (.seq (.region false r63_7)
  .ret))),
  [.tmp 4]⟩
theorem xf63_ok : compFunc Tryz.prog Tryz.f63 = some xf63 := by kernel_rfl
/- (*threshing/unit.state).next$2 -/
def r64_0 : List XLine := [⟨⟨.mv (.const (.bool false)), some 3, none⟩, []⟩]
def r64_1 : List XLine := [⟨⟨.load false 1 (.slot 1), some 4, none⟩, []⟩,
  ⟨⟨.nilCheck (.slot 4), some 5, none⟩, []⟩,
  ⟨⟨.faddr 3 (.slot 5), some 6, none⟩, []⟩,
  ⟨⟨.load false 1 (.slot 6), some 7, none⟩, []⟩,
  ⟨⟨.mv (.slot 0), some 8, none⟩, []⟩,
  ⟨⟨.un .neg (.slot 8), some 9, none⟩, []⟩,
  ⟨⟨.lookup .i32 (.bool false) (.slot 7) (.slot 9) false, some 10, none⟩, []⟩,
  ⟨⟨.un .not (.slot 10), some 11, none⟩, []⟩,
  ⟨⟨.mv (.slot 11), some 3, none⟩, []⟩]
def xf64 : XFunc := ⟨(.seq (.region false r64_0)
  (.seq (.region false r64_1)
  .ret)),
  [.tmp 3]⟩
theorem xf64_ok : compFunc Tryz.prog Tryz.f64 = some xf64 := by kernel_rfl
/- (*threshing/base.Base).full -/
def r65_0 : List XLine := [⟨⟨.mv (.const (.bool false)), some 2, none⟩, []⟩]
def r65_1 : List XLine := [⟨⟨.mv (.slot 0), some 3, none⟩, []⟩,
  ⟨⟨.nilCheck (.slot 3), some 4, none⟩, []⟩,
  ⟨⟨.faddr 5 (.slot 4), some 5, none⟩, []⟩,
  ⟨⟨.load false 1 (.slot 5), some 6, none⟩, []⟩,
  ⟨⟨.len .slice (.slot 6), some 7, none⟩, []⟩,
  ⟨⟨.bin .geq 3 .num (.slot 7) (.const (.int .i64 (.ofNat 4194304))), some 8, none⟩, []⟩,
  ⟨⟨.mv (.slot 8), some 2, none⟩, []⟩]
def xf65 : XFunc := ⟨(.seq (.region false r65_0)
  (.seq (.region false r65_1)
  .ret)),
  [.tmp 2]⟩
theorem xf65_ok : compFunc Tryz.prog Tryz.f65 = some xf65 := by kernel_rfl
/- (*threshing/base.Base).right -/
def r66_0 : List XLine := [⟨⟨.box (.slot 0), some 2, none⟩, []⟩,
  ⟨⟨.mv (.const (.bool false)), some 4, none⟩, []⟩]
def r66_1 : List XLine := [⟨⟨.mv (.slot 1), some 5, none⟩, []⟩,
  ⟨⟨.mkfunc 82 [] [(.slot 2)], some 6, none⟩, []⟩,
  ⟨⟨.call (.const (.func 62 [] [])) [(.slot 5), (.slot 6)], some 7, none⟩, []⟩,
  ⟨⟨.un .not (.slot 7), some 8, none⟩, []⟩,
  ⟨⟨.mv (.slot 8), some 4, none⟩, []⟩]
def xf66 : XFunc := ⟨(.seq (.region false r66_0)
  (.seq (.region false r66_1)
  .ret)),
  [.tmp 4]⟩
theorem xf66_ok : compFunc Tryz.prog Tryz.f66 = some xf66 := by kernel_rfl
/- (*threshing/base.Base).follows -/
def r67_0 : List XLine := [⟨⟨.mv (.const (.int .i64 (.ofNat 0))), some 6, none⟩, []⟩]
def r67_1 : List XLine := [⟨⟨.mkmap .i32, some 18, none⟩, []⟩,
  ⟨⟨.alloc [.nilm], some 7, none⟩, []⟩,
  ⟨⟨.store 1 (.slot 7) (.slot 18), none, none⟩, []⟩]
def r67_2 : List XLine := [⟨⟨.mkfunc 83 [] [(.slot 7)], some 19, none⟩, []⟩,
  ⟨⟨.mv (.slot 19), some 8, none⟩, []⟩]
def r67_3 : List XLine := [⟨⟨.mv (.slot 1), some 20, none⟩, []⟩,
  ⟨⟨.len .slice (.slot 20), some 21, none⟩, []⟩,
  ⟨⟨.mv (.const (.int .i64 (.ofNat 0))), some 22, none⟩, []⟩]
def r67_4 : List XLine := [⟨⟨.bin .lss 3 .num (.slot 22) (.slot 21), some 23, none⟩, []⟩]
def r67_5 : List XLine := [⟨⟨.iaddr 1 (.slot 20) (.slot 22), some 24, none⟩, []⟩,
  ⟨⟨.load false 1 (.slot 24), some 25, none⟩, []⟩,
  ⟨⟨.mv (.slot 25), some 10, none⟩, []⟩]
def r67_6 : List XLine := [⟨⟨.mv (.slot 8), some 26, none⟩, []⟩,
  ⟨⟨.mv (.slot 10), some 27, none⟩, []⟩,
  ⟨⟨.call (.slot 26) [(.slot 27)], some 28, none⟩, []⟩]
def r67_7 : List XLine := [⟨⟨.mv (.const (.int .i64 (.ofNat 0))), some 6, none⟩, []⟩]
def r67_8 : List XLine := [⟨⟨.bin .add 3 .num (.slot 22) (.const (.int .i64 (.ofNat 1))), some 29, none⟩, []⟩,
  ⟨⟨.mv (.slot 29), some 22, none⟩, []⟩]
def r67_9 : List XLine := [⟨⟨.mv (.slot 2), some 30, none⟩, []⟩,
  ⟨⟨.len .slice (.slot 30), some 31, none⟩, []⟩,
  ⟨⟨.mv (.const (.int .i64 (.ofNat 0))), some 32, none⟩, []⟩]
def r67_10 : List XLine := [⟨⟨.bin .lss 3 .num (.slot 32) (.slot 31), some 33, none⟩, []⟩]
def r67_11 : List XLine := [⟨⟨.iaddr 1 (.slot 30) (.slot 32), some 34, none⟩, []⟩,
  ⟨⟨.load false 1 (.slot 34), some 35, none⟩, []⟩,
  ⟨⟨.mv (.slot 35), some 12, none⟩, []⟩]
def r67_12 : List XLine := [⟨⟨.mv (.slot 0), some 37, none⟩, []⟩,
  ⟨⟨.nilCheck (.slot 37), some 38, none⟩, []⟩,
  ⟨⟨.faddr 1 (.slot 38), some 39, none⟩, []⟩,
  ⟨⟨.load false 1 (.slot 39), some 40, none⟩, []⟩,
  ⟨⟨.mv (.slot 12), some 41, none⟩, []⟩,
  ⟨⟨.lookup .i64 (.agg [(.int .i64 (.ofNat 0)), .nils, (.bool false)]) (.slot 40) (.slot 41) true, some 42, none⟩, []⟩,
  ⟨⟨.mv (.slot 42), some 36, none⟩, []⟩,
  ⟨⟨.extract (.slot 36) 0, some 43, none⟩, []⟩,
  ⟨⟨.extract (.slot 36) 1, some 44, none⟩, []⟩,
  ⟨⟨.alloc [(.int .i64 (.ofNat 0)), .nils, (.bool false)], some 13, none⟩, []⟩,
  ⟨⟨.store 3 (.slot 13) (.slot 43), none, none⟩, []⟩,
  ⟨⟨.mv (.slot 44), some 14, none⟩, []⟩]
def r67_13 : List XLine := [⟨⟨.mv (.slot 14), some 45, none⟩, []⟩,
  ⟨⟨.un .not (.slot 45), some 46, none⟩, []⟩]
def r67_14 : List XLine := [⟨⟨.mv (.const (.int .i64 (.ofNat 60))), some 6, none⟩, []⟩]
def r67_15 : List XLine := [⟨⟨.mv (.const (.int .i32 (.ofNat 0))), some 15, none⟩, []⟩]
def r67_16 : List XLine := [⟨⟨.faddr 1 (.slot 13), some 47, none⟩, []⟩,
  ⟨⟨.load false 1 (.slot 47), some 48, none⟩, []⟩,
  ⟨⟨.len .slice (.slot 48), some 49, none⟩, []⟩,
  ⟨⟨.mv (.const (.int .i64 (.ofNat 0))), some 50, none⟩, []⟩]
def r67_17 : List XLine := [⟨⟨.bin .lss 3 .num (.slot 50) (.slot 49), some 51, none⟩, []⟩]
def r67_18 : List XLine := [⟨⟨.iaddr 1 (.slot 48) (.slot 50), some 52, none⟩, []⟩,
  ⟨⟨.load false 1 (.slot 52), some 53, none⟩, []⟩,
  ⟨⟨.mv (.slot 53), some 17, none⟩, []⟩]
def r67_19 : List XLine := [⟨⟨.load false 1 (.slot 7), some 56, none⟩, []⟩,
  ⟨⟨.mv (.slot 17), some 57, none⟩, []⟩,
  ⟨⟨.lookup .i32 (.bool false) (.slot 56) (.slot 57) false, some 58, none⟩, []⟩,
  ⟨⟨.mv (.slot 58), some 55, none⟩, []⟩]
def r67_20 : List XLine := [⟨⟨.mv (.slot 17), some 59, none⟩, []⟩,
  ⟨⟨.mv (.slot 15), some 60, none⟩, []⟩,
  ⟨⟨.bin .eql 24 .num (.slot 59) (.slot 60), some 61, none⟩, []⟩,
  ⟨⟨.mv (.slot 61), some 55, none⟩, []⟩]
def r67_21 : List XLine := [⟨⟨.mv (.slot 15), some 63, none⟩, []⟩,
  ⟨⟨.bin .neq 24 .num (.slot 63) (.const (.int .i32 (.ofNat 0))), some 64, none⟩, []⟩,
  ⟨⟨.mv (.slot 64), some 62, none⟩, []⟩]
def r67_22 : List XLine := [⟨⟨.mv (.const (.int .i64 (.ofNat 60))), some 6, none⟩, []⟩]
def r67_23 : List XLine := [⟨⟨.mv (.slot 17), some 54, none⟩, []⟩,
  ⟨⟨.mv (.slot 54), some 15, none⟩, []⟩]
def r67_24 : List XLine := [⟨⟨.bin .add 3 .num (.slot 50) (.const (.int .i64 (.ofNat 1))), some 65, none⟩, []⟩,
  ⟨⟨.mv (.slot 65), some 50, none⟩, []⟩]
def r67_25 : List XLine := [⟨⟨.mv (.slot 15), some 67, none⟩, []⟩,
  ⟨⟨.bin .eql 24 .num (.slot 67) (.const (.int .i32 (.ofNat 0))), some 68, none⟩, []⟩,
  ⟨⟨.mv (.slot 68), some 66, none⟩, []⟩]
def r67_26 : List XLine := [⟨⟨.mv (.const (.int .i64 (.ofNat 0))), some 6, none⟩, []⟩]
def r67_27 : List XLine := [⟨⟨.load false 1 (.slot 7), some 70, none⟩, []⟩,
  ⟨⟨.mv (.slot 15), some 71, none⟩, []⟩,
  ⟨⟨.un .neg (.slot 71), some 72, none⟩, []⟩,
  ⟨⟨.lookup .i32 (.bool false) (.slot 70) (.slot 72) false, some 73, none⟩, []⟩,
  ⟨⟨.mv (.slot 73), some 69, none⟩, []⟩]
def r67_28 : List XLine := [⟨⟨.mv (.const (.int .i64 (.ofNat 60))), some 6, none⟩, []⟩]
def r67_29 : List XLine := [⟨⟨.mv (.slot 8), some 74, none⟩, []⟩,
  ⟨⟨.mv (.slot 15), some 75, none⟩, []⟩,
  ⟨⟨.un .neg (.slot 75), some 76, none⟩, []⟩,
  ⟨⟨.call (.slot 74) [(.slot 76)], some 77, none⟩, []⟩]
def r67_30 : List XLine := [⟨⟨.bin .add 3 .num (.slot 32) (.const (.int .i64 (.ofNat 1))), some 78, none⟩, []⟩,
  ⟨⟨.mv (.slot 78), some 32, none⟩, []⟩]
def r67_31 : List XLine := [⟨⟨.mv (.const (.int .i64 (.ofNat 61))), some 6, none⟩, []⟩]
def xf67 : XFunc := ⟨(.seq (.region false r67_0)
  (.seq (.region false r67_1)
  (.seq (.region false r67_2)
  (.seq (.seq (.region false r67_3)
  (.block 0 (.loop (.seq (.region false r67_4)
  (.seq (.cond (.slot 23)
  .skip
  (.exit 0))
  (.seq (.block 1 (.seq (.region false r67_5)
  (.seq (.region false r67_6)
  (.cond (.slot 28)
  (.seq (.region false r67_7)
  .ret)
  .skip))))
  (.region false r67_8)))))))
  (.seq (.seq (.region false r67_9)
  (.block 2 (.loop (.seq (.region false r67_10)
  (.seq (.cond (.slot 33)
  .skip
  (.exit 2))
  (.seq (.block 3 (.seq (.region false r67_11)
  (.seq (.region false r67_12)
  (.seq (.seq (.region false r67_13)
  (.cond (.slot 46)
  (.seq (.region false r67_14)
  .ret)
  .skip))
  (.seq (.region false r67_15)
  (.seq (.seq (.region false r67_16)
  (.block 4 (.loop (.seq (.region false r67_17)
  (.seq (.cond (.slot 51)
  .skip
  (.exit 4))
  (.seq (.block 5 (.seq (.region false r67_18)
  (.block 6 (.seq (.seq (.region false r67_19)
  (.cond (.slot 55)
  .skip
  (.region false r67_20)))
  (.cond (.slot 55)
  .skip
  (.seq (.region false r67_21)
  (.cond (.slot 62)
  (.seq (.region false r67_22)
  .ret)
  (.region false r67_23))))))))
  (.region false r67_24)))))))
  (.seq (.block 7 (.seq (.region false r67_25)
  (.cond (.slot 66)
  (.seq (.region false r67_26)
  .ret)
  (.seq (.region false r67_27)
  (.cond (.slot 69)
  (.seq (.region false r67_28)
  .ret)
  .skip)))))
  (.region false r67_29))))))))
  (.region false r67_30)))))))
  (.seq (.region false r67_31)
  .ret)))))),
  [.tmp 6]⟩
theorem xf67_ok : compFunc Tryz.prog Tryz.f67 = some xf67 := by kernel_rfl
end Go.Proofs.YtcpkfdabkpeomaaGreat

/- The functions of the program in X's code, printed by a program of ours; each is what the program's own is turned to. -/
import Derived.Test.YtcpkfdabkpeomaaGreatProg
import Derived.Test.YtcpkfdabkpeomaaGreatW0
import Derived.KernelRfl
namespace Go.Proofs.YtcpkfdabkpeomaaGreat
open Go.Xr
/- (threshing/equal.graph).classes -/
def r15_0 : List XLine := [⟨⟨.box (.slot 0), some 2, none⟩, []⟩,
  ⟨⟨.mv (.const .nils), some 4, none⟩, []⟩]
def r15_1 : List XLine := [⟨⟨.alloc [.nils], some 5, none⟩, []⟩]
def r15_2 : List XLine := [⟨⟨.alloc [.nils], some 6, none⟩, []⟩]
def r15_3 : List XLine := [⟨⟨.mkmap .i32, some 14, none⟩, []⟩,
  ⟨⟨.mkmap .i32, some 15, none⟩, []⟩,
  ⟨⟨.mkmap .i32, some 16, none⟩, []⟩,
  ⟨⟨.alloc [.nilm], some 7, none⟩, []⟩,
  ⟨⟨.alloc [.nilm], some 8, none⟩, []⟩,
  ⟨⟨.alloc [.nilm], some 9, none⟩, []⟩,
  ⟨⟨.store 1 (.slot 7) (.slot 14), none, none⟩, []⟩,
  ⟨⟨.store 1 (.slot 8) (.slot 15), none, none⟩, []⟩,
  ⟨⟨.store 1 (.slot 9) (.slot 16), none, none⟩, []⟩]
def r15_4 : List XLine := [⟨⟨.alloc [.nilf], some 10, none⟩, []⟩]
def r15_5 : List XLine := [⟨⟨.mkfunc 36 [] [(.slot 7), (.slot 8), (.slot 6), (.slot 9), (.slot 2), (.slot 10), (.slot 5)], some 17, none⟩, []⟩,
  ⟨⟨.store 1 (.slot 10) (.slot 17), none, none⟩, []⟩]
def r15_6 : List XLine := [⟨⟨.mv (.const (.int .i32 (.ofNat 1))), some 11, none⟩, []⟩]
def r15_7 : List XLine := [⟨⟨.mv (.slot 11), some 18, none⟩, []⟩,
  ⟨⟨.conv .i64 (.slot 18), some 19, none⟩, []⟩,
  ⟨⟨.mv (.slot 1), some 20, none⟩, []⟩,
  ⟨⟨.bin .leq 3 .num (.slot 19) (.slot 20), some 21, none⟩, []⟩]
def r15_8 : List XLine := [⟨⟨.mv (.slot 11), some 24, none⟩, []⟩,
  ⟨⟨.mv (.slot 11), some 25, none⟩, []⟩,
  ⟨⟨.un .neg (.slot 25), some 26, none⟩, []⟩,
  ⟨⟨.bslice 1 [(.int .i32 (.ofNat 0)), (.int .i32 (.ofNat 0))] [(0, 1, (.slot 24)), (1, 1, (.slot 26))] 2, some 27, none⟩, []⟩,
  ⟨⟨.len .slice (.slot 27), some 28, none⟩, []⟩,
  ⟨⟨.mv (.const (.int .i64 (.ofNat 0))), some 29, none⟩, []⟩]
def r15_9 : List XLine := [⟨⟨.bin .lss 3 .num (.slot 29) (.slot 28), some 30, none⟩, []⟩]
def r15_10 : List XLine := [⟨⟨.iaddr 1 (.slot 27) (.slot 29), some 31, none⟩, []⟩,
  ⟨⟨.load false 1 (.slot 31), some 32, none⟩, []⟩,
  ⟨⟨.mv (.slot 32), some 13, none⟩, []⟩]
def r15_11 : List XLine := [⟨⟨.load false 1 (.slot 7), some 33, none⟩, []⟩,
  ⟨⟨.mv (.slot 13), some 34, none⟩, []⟩,
  ⟨⟨.lookup .i32 (.int .i64 (.ofNat 0)) (.slot 33) (.slot 34) false, some 35, none⟩, []⟩,
  ⟨⟨.bin .eql 3 .num (.slot 35) (.const (.int .i64 (.ofNat 0))), some 36, none⟩, []⟩]
def r15_12 : List XLine := [⟨⟨.load false 1 (.slot 10), some 37, none⟩, []⟩,
  ⟨⟨.mv (.slot 13), some 38, none⟩, []⟩,
  ⟨⟨.call (.slot 37) [(.slot 38)], some 39, none⟩, []⟩]
def r15_13 : List XLine := [⟨⟨.bin .add 3 .num (.slot 29) (.const (.int .i64 (.ofNat 1))), some 40, none⟩, []⟩,
  ⟨⟨.mv (.slot 40), some 29, none⟩, []⟩]
def r15_14 : List XLine := [⟨⟨.mv (.slot 11), some 22, none⟩, []⟩,
  ⟨⟨.bin .add 24 .num (.slot 22) (.const (.int .i32 (.ofNat 1))), some 23, none⟩, []⟩,
  ⟨⟨.mv (.slot 23), some 11, none⟩, []⟩]
def r15_15 : List XLine := [⟨⟨.load false 1 (.slot 5), some 41, none⟩, []⟩,
  ⟨⟨.mv (.slot 41), some 4, none⟩, []⟩]
def xf15 : XFunc := ⟨(.seq (.region false r15_0)
  (.seq (.region false r15_1)
  (.seq (.region false r15_2)
  (.seq (.region false r15_3)
  (.seq (.region false r15_4)
  (.seq (.region false r15_5)
  (.seq (.seq (.region false r15_6)
  (.block 0 (.loop (.seq (.seq (.region false r15_7)
  (.cond (.slot 21)
  .skip
  (.exit 0)))
  (.seq (.block 1 (.seq (.region false r15_8)
  (.block 2 (.loop (.seq (.region false r15_9)
  (.seq (.cond (.slot 30)
  .skip
  (.exit 2))
  (.seq (.block 3 (.seq (.region false r15_10)
  (.seq (.region false r15_11)
  (.cond (.slot 36)
  (.region false r15_12)
  .skip))))
  (.region false r15_13))))))))
  (.region false r15_14))))))
  (.seq (.region false r15_15)
  .ret)))))))),
  [.tmp 4]⟩
theorem xf15_ok : compFunc Tryz.prog Tryz.f15 = some xf15 := by kernel_rfl
/- (*threshing/base.Base).Vars -/
def r16_0 : List XLine := [⟨⟨.mv (.const (.int .i64 (.ofNat 0))), some 2, none⟩, []⟩]
def r16_1 : List XLine := [⟨⟨.mv (.slot 0), some 3, none⟩, []⟩,
  ⟨⟨.bin .eql 22 .ptr (.slot 3) (.const .nilp), some 4, none⟩, []⟩]
def r16_2 : List XLine := [⟨⟨.mv (.const (.int .i64 (.ofNat 0))), some 2, none⟩, []⟩]
def r16_3 : List XLine := [⟨⟨.mv (.slot 0), some 5, none⟩, []⟩,
  ⟨⟨.nilCheck (.slot 5), some 6, none⟩, []⟩,
  ⟨⟨.faddr 0 (.slot 6), some 7, none⟩, []⟩,
  ⟨⟨.load false 1 (.slot 7), some 8, none⟩, []⟩,
  ⟨⟨.mv (.slot 8), some 2, none⟩, []⟩]
def xf16 : XFunc := ⟨(.seq (.region false r16_0)
  (.seq (.seq (.region false r16_1)
  (.cond (.slot 4)
  (.seq (.region false r16_2)
  .ret)
  .skip))
  (.seq (.region false r16_3)
  .ret))),
  [.tmp 2]⟩
theorem xf16_ok : compFunc Tryz.prog Tryz.f16 = some xf16 := by kernel_rfl
/- slices.MinFunc[[]threshing/api.Lit,threshing/api.Lit] -/
def r17_0 : List XLine := [⟨⟨.mv (.const (.int .i32 (.ofNat 0))), some 4, none⟩, []⟩]
def r17_1 : List XLine := [⟨⟨.mv (.slot 0), some 7, none⟩, []⟩,
  ⟨⟨.len .slice (.slot 7), some 8, none⟩, []⟩,
  ⟨⟨.bin .lss 3 .num (.slot 8) (.const (.int .i64 (.ofNat 1))), some 9, none⟩, []⟩]
def r17_2 : List XLine := [⟨⟨.mkif 9 (.const (.str ⟨⟨[115, 108, 105, 99, 101, 115, 46, 77, 105, 110, 70, 117, 110, 99, 58, 32, 101, 109, 112, 116, 121, 32, 108, 105, 115, 116]⟩⟩)), some 10, none⟩, []⟩,
  ⟨⟨.bad, none, none⟩, []⟩]
def r17_3 : List XLine := [⟨⟨.mv (.slot 0), some 11, none⟩, []⟩,
  ⟨⟨.iaddr 1 (.slot 11) (.const (.int .i64 (.ofNat 0))), some 12, none⟩, []⟩,
  ⟨⟨.load false 1 (.slot 12), some 13, none⟩, []⟩,
  ⟨⟨.mv (.slot 13), some 5, none⟩, []⟩]
def r17_4 : List XLine := [⟨⟨.mv (.const (.int .i64 (.ofNat 1))), some 6, none⟩, []⟩]
def r17_5 : List XLine := [⟨⟨.mv (.slot 6), some 14, none⟩, []⟩,
  ⟨⟨.mv (.slot 0), some 15, none⟩, []⟩,
  ⟨⟨.len .slice (.slot 15), some 16, none⟩, []⟩,
  ⟨⟨.bin .lss 3 .num (.slot 14) (.slot 16), some 17, none⟩, []⟩]
def r17_6 : List XLine := [⟨⟨.mv (.slot 1), some 20, none⟩, []⟩,
  ⟨⟨.mv (.slot 0), some 21, none⟩, []⟩,
  ⟨⟨.mv (.slot 6), some 22, none⟩, []⟩,
  ⟨⟨.iaddr 1 (.slot 21) (.slot 22), some 23, none⟩, []⟩,
  ⟨⟨.load false 1 (.slot 23), some 24, none⟩, []⟩,
  ⟨⟨.mv (.slot 5), some 25, none⟩, []⟩,
  ⟨⟨.call (.slot 20) [(.slot 24), (.slot 25)], some 26, none⟩, []⟩,
  ⟨⟨.bin .lss 3 .num (.slot 26) (.const (.int .i64 (.ofNat 0))), some 27, none⟩, []⟩]
def r17_7 : List XLine := [⟨⟨.mv (.slot 0), some 28, none⟩, []⟩,
  ⟨⟨.mv (.slot 6), some 29, none⟩, []⟩,
  ⟨⟨.iaddr 1 (.slot 28) (.slot 29), some 30, none⟩, []⟩,
  ⟨⟨.load false 1 (.slot 30), some 31, none⟩, []⟩,
  ⟨⟨.mv (.slot 31), some 5, none⟩, []⟩]
def r17_8 : List XLine := [⟨⟨.mv (.slot 6), some 18, none⟩, []⟩,
  ⟨⟨.bin .add 3 .num (.slot 18) (.const (.int .i64 (.ofNat 1))), some 19, none⟩, []⟩,
  ⟨⟨.mv (.slot 19), some 6, none⟩, []⟩]
def r17_9 : List XLine := [⟨⟨.mv (.slot 5), some 32, none⟩, []⟩,
  ⟨⟨.mv (.slot 32), some 4, none⟩, []⟩]
def xf17 : XFunc := ⟨(.seq (.region false r17_0)
  (.seq (.seq (.region false r17_1)
  (.cond (.slot 9)
  (.region false r17_2)
  .skip))
  (.seq (.region false r17_3)
  (.seq (.seq (.region false r17_4)
  (.block 0 (.loop (.seq (.seq (.region false r17_5)
  (.cond (.slot 17)
  .skip
  (.exit 0)))
  (.seq (.block 1 (.seq (.region false r17_6)
  (.cond (.slot 27)
  (.region false r17_7)
  .skip)))
  (.region false r17_8))))))
  (.seq (.region false r17_9)
  .ret))))),
  [.tmp 4]⟩
theorem xf17_ok : compFunc Tryz.prog Tryz.f17 = some xf17 := by kernel_rfl
/- threshing/equal.Equals$1 -/
def r18_0 : List XLine := [⟨⟨.mv (.const (.int .i64 (.ofNat 0))), some 4, none⟩, []⟩]
def r18_1 : List XLine := [⟨⟨.mv (.slot 0), some 5, none⟩, []⟩,
  ⟨⟨.call (.const (.func 19 [] [])) [(.slot 5)], some 6, none⟩, []⟩,
  ⟨⟨.mv (.slot 1), some 7, none⟩, []⟩,
  ⟨⟨.call (.const (.func 19 [] [])) [(.slot 7)], some 8, none⟩, []⟩,
  ⟨⟨.bin .sub 3 .num (.slot 6) (.slot 8), some 9, none⟩, []⟩,
  ⟨⟨.mv (.slot 9), some 4, none⟩, []⟩]
def xf18 : XFunc := ⟨(.seq (.region false r18_0)
  (.seq (.region false r18_1)
  .ret)),
  [.tmp 4]⟩
theorem xf18_ok : compFunc Tryz.prog Tryz.f18 = some xf18 := by kernel_rfl
/- threshing/cnf.Var -/
def r19_0 : List XLine := [⟨⟨.mv (.const (.int .i64 (.ofNat 0))), some 2, none⟩, []⟩]
def r19_1 : List XLine := [⟨⟨.mv (.slot 0), some 3, none⟩, []⟩,
  ⟨⟨.call (.const (.func 39 [] [])) [(.slot 3)], some 4, none⟩, []⟩,
  ⟨⟨.mv (.slot 4), some 2, none⟩, []⟩]
def xf19 : XFunc := ⟨(.seq (.region false r19_0)
  (.seq (.region false r19_1)
  .ret)),
  [.tmp 2]⟩
theorem xf19_ok : compFunc Tryz.prog Tryz.f19 = some xf19 := by kernel_rfl
/- slices.Contains[[]threshing/api.Lit,threshing/api.Lit] -/
def r20_0 : List XLine := [⟨⟨.mv (.const (.bool false)), some 4, none⟩, []⟩]
def r20_1 : List XLine := [⟨⟨.mv (.slot 0), some 5, none⟩, []⟩,
  ⟨⟨.mv (.slot 1), some 6, none⟩, []⟩,
  ⟨⟨.call (.const (.func 37 [] [])) [(.slot 5), (.slot 6)], some 7, none⟩, []⟩,
  ⟨⟨.bin .geq 3 .num (.slot 7) (.const (.int .i64 (.ofNat 0))), some 8, none⟩, []⟩,
  ⟨⟨.mv (.slot 8), some 4, none⟩, []⟩]
def xf20 : XFunc := ⟨(.seq (.region false r20_0)
  (.seq (.region false r20_1)
  .ret)),
  [.tmp 4]⟩
theorem xf20_ok : compFunc Tryz.prog Tryz.f20 = some xf20 := by kernel_rfl
/- threshing/equal.fails -/
def r21_0 : List XLine := [⟨⟨.mv (.const (.int .i64 (.ofNat 0))), some 4, none⟩, []⟩]
def r21_1 : List XLine := [⟨⟨.mv (.slot 0), some 11, none⟩, []⟩,
  ⟨⟨.mv (.slot 1), some 12, none⟩, []⟩,
  ⟨⟨.bslice 1 [(.int .i32 (.ofNat 0))] [(0, 1, (.slot 12))] 1, some 13, none⟩, []⟩,
  ⟨⟨.call (.const (.func 13 [] [])) [(.slot 11), (.slot 13), (.const (.int .i64 (.ofNat 0)))], some 14, none⟩, []⟩,
  ⟨⟨.mv (.slot 14), some 10, none⟩, []⟩,
  ⟨⟨.extract (.slot 10) 0, some 15, none⟩, []⟩,
  ⟨⟨.extract (.slot 10) 1, some 16, none⟩, []⟩,
  ⟨⟨.alloc [.nils, .nils, (.int .i64 (.ofNat 0))], some 5, none⟩, []⟩,
  ⟨⟨.store 3 (.slot 5) (.slot 15), none, none⟩, []⟩,
  ⟨⟨.mv (.slot 16), some 6, none⟩, []⟩]
def r21_2 : List XLine := [⟨⟨.mv (.slot 6), some 17, none⟩, []⟩,
  ⟨⟨.bin .neq 27 .num (.slot 17) (.const (.int .i64 (.ofNat 0))), some 18, none⟩, []⟩]
def r21_3 : List XLine := [⟨⟨.mv (.slot 6), some 19, none⟩, []⟩,
  ⟨⟨.mv (.slot 19), some 4, none⟩, []⟩]
def r21_4 : List XLine := [⟨⟨.mv (.slot 0), some 21, none⟩, []⟩,
  ⟨⟨.mv (.slot 1), some 22, none⟩, []⟩,
  ⟨⟨.un .neg (.slot 22), some 23, none⟩, []⟩,
  ⟨⟨.bslice 1 [(.int .i32 (.ofNat 0))] [(0, 1, (.slot 23))] 1, some 24, none⟩, []⟩,
  ⟨⟨.load true 3 (.slot 5), some 25, none⟩, []⟩,
  ⟨⟨.call (.const (.func 41 [] [])) [(.slot 25)], some 26, none⟩, []⟩,
  ⟨⟨.call (.const (.func 40 [] [])) [(.slot 21), (.slot 24), (.slot 26), (.const (.bool false))], some 27, none⟩, []⟩,
  ⟨⟨.mv (.slot 27), some 20, none⟩, []⟩,
  ⟨⟨.extract (.slot 20) 0, some 28, none⟩, []⟩,
  ⟨⟨.extract (.slot 20) 1, some 29, none⟩, []⟩,
  ⟨⟨.mv (.slot 28), some 7, none⟩, []⟩,
  ⟨⟨.mv (.slot 29), some 8, none⟩, []⟩]
def r21_5 : List XLine := [⟨⟨.mv (.slot 8), some 30, none⟩, []⟩,
  ⟨⟨.bin .neq 27 .num (.slot 30) (.const (.int .i64 (.ofNat 0))), some 31, none⟩, []⟩]
def r21_6 : List XLine := [⟨⟨.mv (.slot 8), some 32, none⟩, []⟩,
  ⟨⟨.mv (.slot 32), some 4, none⟩, []⟩]
def r21_7 : List XLine := [⟨⟨.mv (.slot 0), some 34, none⟩, []⟩,
  ⟨⟨.call (.const (.func 13 [] [])) [(.slot 34), (.const .nils), (.const (.int .i64 (.ofNat 0)))], some 35, none⟩, []⟩,
  ⟨⟨.mv (.slot 35), some 33, none⟩, []⟩,
  ⟨⟨.extract (.slot 33) 0, some 36, none⟩, []⟩,
  ⟨⟨.extract (.slot 33) 1, some 37, none⟩, []⟩,
  ⟨⟨.alloc [.nils, .nils, (.int .i64 (.ofNat 0))], some 9, none⟩, []⟩,
  ⟨⟨.store 3 (.slot 9) (.slot 36), none, none⟩, []⟩,
  ⟨⟨.mv (.slot 37), some 6, none⟩, []⟩]
def r21_8 : List XLine := [⟨⟨.mv (.slot 6), some 38, none⟩, []⟩,
  ⟨⟨.bin .neq 27 .num (.slot 38) (.const (.int .i64 (.ofNat 0))), some 39, none⟩, []⟩]
def r21_9 : List XLine := [⟨⟨.mv (.slot 6), some 40, none⟩, []⟩,
  ⟨⟨.mv (.slot 40), some 4, none⟩, []⟩]
def r21_10 : List XLine := [⟨⟨.mv (.slot 0), some 42, none⟩, []⟩,
  ⟨⟨.load true 3 (.slot 9), some 43, none⟩, []⟩,
  ⟨⟨.call (.const (.func 41 [] [])) [(.slot 43)], some 44, none⟩, []⟩,
  ⟨⟨.call (.const (.func 40 [] [])) [(.slot 42), (.const .nils), (.slot 44), (.const (.bool false))], some 45, none⟩, []⟩,
  ⟨⟨.mv (.slot 45), some 41, none⟩, []⟩,
  ⟨⟨.extract (.slot 41) 0, some 46, none⟩, []⟩,
  ⟨⟨.extract (.slot 41) 1, some 47, none⟩, []⟩,
  ⟨⟨.mv (.slot 47), some 6, none⟩, []⟩]
def r21_11 : List XLine := [⟨⟨.mv (.slot 6), some 48, none⟩, []⟩,
  ⟨⟨.mv (.slot 48), some 4, none⟩, []⟩]
def xf21 : XFunc := ⟨(.seq (.region false r21_0)
  (.seq (.region false r21_1)
  (.seq (.seq (.region false r21_2)
  (.cond (.slot 18)
  (.seq (.region false r21_3)
  .ret)
  .skip))
  (.seq (.seq (.region false r21_4)
  (.seq (.region false r21_5)
  (.cond (.slot 31)
  (.seq (.region false r21_6)
  .ret)
  .skip)))
  (.seq (.region false r21_7)
  (.seq (.seq (.region false r21_8)
  (.cond (.slot 39)
  (.seq (.region false r21_9)
  .ret)
  .skip))
  (.seq (.region false r21_10)
  (.seq (.region false r21_11)
  .ret)))))))),
  [.tmp 4]⟩
theorem xf21_ok : compFunc Tryz.prog Tryz.f21 = some xf21 := by kernel_rfl
/- threshing/equal.put -/
def r22_0 : List XLine := [⟨⟨.mv (.const (.int .i64 (.ofNat 0))), some 6, none⟩, []⟩]
def r22_1 : List XLine := [⟨⟨.mv (.slot 0), some 29, none⟩, []⟩,
  ⟨⟨.mv (.slot 1), some 30, none⟩, []⟩,
  ⟨⟨.un .neg (.slot 30), some 31, none⟩, []⟩,
  ⟨⟨.mv (.slot 2), some 32, none⟩, []⟩,
  ⟨⟨.bslice 1 [(.int .i32 (.ofNat 0)), (.int .i32 (.ofNat 0))] [(0, 1, (.slot 31)), (1, 1, (.slot 32))] 2, some 33, none⟩, []⟩,
  ⟨⟨.call (.const (.func 42 [] [])) [(.slot 29), (.slot 33)], some 34, none⟩, []⟩,
  ⟨⟨.mv (.slot 34), some 28, none⟩, []⟩,
  ⟨⟨.extract (.slot 28) 0, some 35, none⟩, []⟩,
  ⟨⟨.extract (.slot 28) 1, some 36, none⟩, []⟩,
  ⟨⟨.mv (.slot 35), some 7, none⟩, []⟩,
  ⟨⟨.mv (.slot 36), some 8, none⟩, []⟩]
def r22_2 : List XLine := [⟨⟨.mv (.slot 8), some 37, none⟩, []⟩,
  ⟨⟨.bin .neq 27 .num (.slot 37) (.const (.int .i64 (.ofNat 0))), some 38, none⟩, []⟩]
def r22_3 : List XLine := [⟨⟨.mv (.slot 8), some 39, none⟩, []⟩,
  ⟨⟨.mv (.slot 39), some 6, none⟩, []⟩]
def r22_4 : List XLine := [⟨⟨.mv (.slot 0), some 41, none⟩, []⟩,
  ⟨⟨.mv (.slot 1), some 42, none⟩, []⟩,
  ⟨⟨.mv (.slot 2), some 43, none⟩, []⟩,
  ⟨⟨.un .neg (.slot 43), some 44, none⟩, []⟩,
  ⟨⟨.bslice 1 [(.int .i32 (.ofNat 0)), (.int .i32 (.ofNat 0))] [(0, 1, (.slot 42)), (1, 1, (.slot 44))] 2, some 45, none⟩, []⟩,
  ⟨⟨.call (.const (.func 42 [] [])) [(.slot 41), (.slot 45)], some 46, none⟩, []⟩,
  ⟨⟨.mv (.slot 46), some 40, none⟩, []⟩,
  ⟨⟨.extract (.slot 40) 0, some 47, none⟩, []⟩,
  ⟨⟨.extract (.slot 40) 1, some 48, none⟩, []⟩,
  ⟨⟨.mv (.slot 47), some 9, none⟩, []⟩,
  ⟨⟨.mv (.slot 48), some 8, none⟩, []⟩]
def r22_5 : List XLine := [⟨⟨.mv (.slot 8), some 49, none⟩, []⟩,
  ⟨⟨.bin .neq 27 .num (.slot 49) (.const (.int .i64 (.ofNat 0))), some 50, none⟩, []⟩]
def r22_6 : List XLine := [⟨⟨.mv (.slot 8), some 51, none⟩, []⟩,
  ⟨⟨.mv (.slot 51), some 6, none⟩, []⟩]
def r22_7 : List XLine := [⟨⟨.bad, none, none⟩, [⟨.bad, none, none⟩]⟩,
  ⟨⟨.mv (.slot 1), some 53, none⟩, []⟩,
  ⟨⟨.mv (.slot 2), some 54, none⟩, []⟩,
  ⟨⟨.mv (.slot 1), some 55, none⟩, []⟩,
  ⟨⟨.un .neg (.slot 55), some 56, none⟩, []⟩,
  ⟨⟨.mv (.slot 2), some 57, none⟩, []⟩,
  ⟨⟨.un .neg (.slot 57), some 58, none⟩, []⟩,
  ⟨⟨.mkmap .i32, some 52, none⟩, []⟩,
  ⟨⟨.mapup .i32 (.slot 52) (.slot 53) (.slot 54), none, none⟩, []⟩,
  ⟨⟨.mapup .i32 (.slot 52) (.slot 56) (.slot 58), none, none⟩, []⟩,
  ⟨⟨.mv (.slot 52), some 59, none⟩, []⟩,
  ⟨⟨.mv (.slot 59), some 10, none⟩, []⟩,
  ⟨⟨.bad, none, none⟩, [⟨.bad, none, none⟩]⟩,
  ⟨⟨.mv (.slot 1), some 53, none⟩, []⟩,
  ⟨⟨.mv (.slot 2), some 54, none⟩, []⟩,
  ⟨⟨.mv (.slot 1), some 55, none⟩, []⟩,
  ⟨⟨.un .neg (.slot 55), some 56, none⟩, []⟩,
  ⟨⟨.mv (.slot 2), some 57, none⟩, []⟩,
  ⟨⟨.un .neg (.slot 57), some 58, none⟩, []⟩,
  ⟨⟨.mkmap .i32, some 52, none⟩, []⟩,
  ⟨⟨.mapup .i32 (.slot 52) (.slot 56) (.slot 58), none, none⟩, []⟩,
  ⟨⟨.mapup .i32 (.slot 52) (.slot 53) (.slot 54), none, none⟩, []⟩,
  ⟨⟨.mv (.slot 52), some 59, none⟩, []⟩,
  ⟨⟨.mv (.slot 59), some 10, none⟩, []⟩]
def r22_8 : List XLine := [⟨⟨.bad, none, none⟩, [⟨.bad, none, none⟩]⟩,
  ⟨⟨.mv (.slot 1), some 61, none⟩, []⟩,
  ⟨⟨.mv (.slot 7), some 62, none⟩, []⟩,
  ⟨⟨.mv (.slot 1), some 63, none⟩, []⟩,
  ⟨⟨.un .neg (.slot 63), some 64, none⟩, []⟩,
  ⟨⟨.mv (.slot 9), some 65, none⟩, []⟩,
  ⟨⟨.mkmap .i32, some 60, none⟩, []⟩,
  ⟨⟨.mapup .i32 (.slot 60) (.slot 61) (.slot 62), none, none⟩, []⟩,
  ⟨⟨.mapup .i32 (.slot 60) (.slot 64) (.slot 65), none, none⟩, []⟩,
  ⟨⟨.mv (.slot 60), some 66, none⟩, []⟩,
  ⟨⟨.mv (.slot 66), some 11, none⟩, []⟩,
  ⟨⟨.bad, none, none⟩, [⟨.bad, none, none⟩]⟩,
  ⟨⟨.mv (.slot 1), some 61, none⟩, []⟩,
  ⟨⟨.mv (.slot 7), some 62, none⟩, []⟩,
  ⟨⟨.mv (.slot 1), some 63, none⟩, []⟩,
  ⟨⟨.un .neg (.slot 63), some 64, none⟩, []⟩,
  ⟨⟨.mv (.slot 9), some 65, none⟩, []⟩,
  ⟨⟨.mkmap .i32, some 60, none⟩, []⟩,
  ⟨⟨.mapup .i32 (.slot 60) (.slot 64) (.slot 65), none, none⟩, []⟩,
  ⟨⟨.mapup .i32 (.slot 60) (.slot 61) (.slot 62), none, none⟩, []⟩,
  ⟨⟨.mv (.slot 60), some 66, none⟩, []⟩,
  ⟨⟨.mv (.slot 66), some 11, none⟩, []⟩]
def r22_9 : List XLine := [⟨⟨.mv (.slot 0), some 67, none⟩, []⟩,
  ⟨⟨.mv (.slot 1), some 68, none⟩, []⟩,
  ⟨⟨.call (.const (.func 9 [] [])) [(.slot 67), (.slot 68)], some 69, none⟩, []⟩,
  ⟨⟨.mv (.slot 0), some 70, none⟩, []⟩,
  ⟨⟨.mv (.slot 1), some 71, none⟩, []⟩,
  ⟨⟨.un .neg (.slot 71), some 72, none⟩, []⟩,
  ⟨⟨.call (.const (.func 9 [] [])) [(.slot 70), (.slot 72)], some 73, none⟩, []⟩,
  ⟨⟨.bslice 1 [.nils, .nils] [(0, 1, (.slot 69)), (1, 1, (.slot 73))] 2, some 74, none⟩, []⟩,
  ⟨⟨.call (.const (.func 43 [] [])) [(.slot 74)], some 75, none⟩, []⟩,
  ⟨⟨.mv (.slot 75), some 12, none⟩, []⟩]
def r22_10 : List XLine := [⟨⟨.mv (.slot 12), some 76, none⟩, []⟩,
  ⟨⟨.call (.const (.func 44 [] [])) [(.slot 76)], some 77, none⟩, []⟩]
def r22_11 : List XLine := [⟨⟨.mv (.slot 12), some 78, none⟩, []⟩,
  ⟨⟨.call (.const (.func 45 [] [])) [(.slot 78)], some 79, none⟩, []⟩,
  ⟨⟨.len .slice (.slot 79), some 80, none⟩, []⟩,
  ⟨⟨.mv (.const (.int .i64 (.ofNat 0))), some 81, none⟩, []⟩]
def r22_12 : List XLine := [⟨⟨.bin .lss 3 .num (.slot 81) (.slot 80), some 82, none⟩, []⟩]
def r22_13 : List XLine := [⟨⟨.iaddr 1 (.slot 79) (.slot 81), some 83, none⟩, []⟩,
  ⟨⟨.load false 1 (.slot 83), some 84, none⟩, []⟩,
  ⟨⟨.mv (.slot 84), some 14, none⟩, []⟩]
def r22_14 : List XLine := [⟨⟨.mv (.slot 14), some 85, none⟩, []⟩,
  ⟨⟨.mv (.slot 7), some 86, none⟩, []⟩,
  ⟨⟨.bin .eql 2 .num (.slot 85) (.slot 86), some 87, none⟩, []⟩,
  ⟨⟨.mv (.slot 87), some 88, none⟩, []⟩,
  ⟨⟨.mv (.slot 14), some 89, some (88, false)⟩, []⟩,
  ⟨⟨.mv (.slot 9), some 90, some (88, false)⟩, []⟩,
  ⟨⟨.bin .eql 2 .num (.slot 89) (.slot 90), some 91, some (88, false)⟩, []⟩,
  ⟨⟨.pick (.slot 88) (.const (.bool true)) (.slot 91), some 92, none⟩, []⟩]
def r22_15 : List XLine := [⟨⟨.mv (.slot 0), some 94, none⟩, []⟩,
  ⟨⟨.mv (.slot 14), some 95, none⟩, []⟩,
  ⟨⟨.call (.const (.func 6 [] [])) [(.slot 94), (.slot 95)], some 96, none⟩, []⟩,
  ⟨⟨.mv (.slot 96), some 93, none⟩, []⟩,
  ⟨⟨.extract (.slot 93) 0, some 97, none⟩, []⟩,
  ⟨⟨.extract (.slot 93) 1, some 98, none⟩, []⟩,
  ⟨⟨.alloc [(.int .i64 (.ofNat 0)), .nils, (.bool false)], some 15, none⟩, []⟩,
  ⟨⟨.store 3 (.slot 15) (.slot 97), none, none⟩, []⟩,
  ⟨⟨.mv (.slot 98), some 16, none⟩, []⟩]
def r22_16 : List XLine := [⟨⟨.mv (.const .nils), some 17, none⟩, []⟩,
  ⟨⟨.mv (.const .nils), some 18, none⟩, []⟩]
def r22_17 : List XLine := [⟨⟨.faddr 1 (.slot 15), some 99, none⟩, []⟩,
  ⟨⟨.load false 1 (.slot 99), some 100, none⟩, []⟩,
  ⟨⟨.len .slice (.slot 100), some 101, none⟩, []⟩,
  ⟨⟨.mv (.const (.int .i64 (.ofNat 0))), some 102, none⟩, []⟩]
def r22_18 : List XLine := [⟨⟨.bin .lss 3 .num (.slot 102) (.slot 101), some 103, none⟩, []⟩]
def r22_19 : List XLine := [⟨⟨.iaddr 1 (.slot 100) (.slot 102), some 104, none⟩, []⟩,
  ⟨⟨.load false 1 (.slot 104), some 105, none⟩, []⟩,
  ⟨⟨.mv (.slot 105), some 20, none⟩, []⟩]
def r22_20 : List XLine := [⟨⟨.mv (.slot 10), some 107, none⟩, []⟩,
  ⟨⟨.mv (.slot 20), some 108, none⟩, []⟩,
  ⟨⟨.lookup .i32 (.int .i32 (.ofNat 0)) (.slot 107) (.slot 108) true, some 109, none⟩, []⟩,
  ⟨⟨.mv (.slot 109), some 106, none⟩, []⟩,
  ⟨⟨.extract (.slot 106) 0, some 110, none⟩, []⟩,
  ⟨⟨.extract (.slot 106) 1, some 111, none⟩, []⟩,
  ⟨⟨.mv (.slot 110), some 21, none⟩, []⟩,
  ⟨⟨.mv (.slot 111), some 22, none⟩, []⟩]
def r22_21 : List XLine := [⟨⟨.mv (.slot 22), some 112, none⟩, []⟩]
def r22_22 : List XLine := [⟨⟨.mv (.slot 18), some 113, none⟩, []⟩,
  ⟨⟨.mv (.slot 20), some 114, none⟩, []⟩,
  ⟨⟨.bslice 1 [(.int .i32 (.ofNat 0))] [(0, 1, (.slot 114))] 1, some 115, none⟩, []⟩,
  ⟨⟨.append 1 4 (.slot 113) (.slot 115), some 116, none⟩, []⟩,
  ⟨⟨.mv (.slot 116), some 18, none⟩, []⟩]
def r22_23 : List XLine := [⟨⟨.mv (.slot 21), some 117, none⟩, []⟩,
  ⟨⟨.mv (.slot 117), some 20, none⟩, []⟩]
def r22_24 : List XLine := [⟨⟨.mv (.slot 17), some 118, none⟩, []⟩,
  ⟨⟨.mv (.slot 20), some 119, none⟩, []⟩,
  ⟨⟨.bslice 1 [(.int .i32 (.ofNat 0))] [(0, 1, (.slot 119))] 1, some 120, none⟩, []⟩,
  ⟨⟨.append 1 4 (.slot 118) (.slot 120), some 121, none⟩, []⟩,
  ⟨⟨.mv (.slot 121), some 17, none⟩, []⟩]
def r22_25 : List XLine := [⟨⟨.bin .add 3 .num (.slot 102) (.const (.int .i64 (.ofNat 1))), some 122, none⟩, []⟩,
  ⟨⟨.mv (.slot 122), some 102, none⟩, []⟩]
def r22_26 : List XLine := [⟨⟨.mv (.slot 17), some 124, none⟩, []⟩,
  ⟨⟨.call (.const (.func 32 [] [])) [(.slot 124)], some 125, none⟩, []⟩,
  ⟨⟨.mv (.slot 125), some 123, none⟩, []⟩,
  ⟨⟨.extract (.slot 123) 0, some 126, none⟩, []⟩,
  ⟨⟨.extract (.slot 123) 1, some 127, none⟩, []⟩,
  ⟨⟨.mv (.slot 126), some 23, none⟩, []⟩,
  ⟨⟨.mv (.slot 127), some 24, none⟩, []⟩]
def r22_27 : List XLine := [⟨⟨.mv (.slot 24), some 128, none⟩, []⟩,
  ⟨⟨.un .not (.slot 128), some 129, none⟩, []⟩]
def r22_28 : List XLine := [⟨⟨.mv (.slot 0), some 131, none⟩, []⟩,
  ⟨⟨.mv (.slot 17), some 132, none⟩, []⟩,
  ⟨⟨.mv (.slot 11), some 133, none⟩, []⟩,
  ⟨⟨.mv (.slot 18), some 134, none⟩, []⟩,
  ⟨⟨.iaddr 1 (.slot 134) (.const (.int .i64 (.ofNat 0))), some 135, none⟩, []⟩,
  ⟨⟨.load false 1 (.slot 135), some 136, none⟩, []⟩,
  ⟨⟨.lookup .i32 (.int .i64 (.ofNat 0)) (.slot 133) (.slot 136) false, some 137, none⟩, []⟩,
  ⟨⟨.mv (.slot 14), some 138, none⟩, []⟩,
  ⟨⟨.faddr 2 (.slot 15), some 140, none⟩, []⟩,
  ⟨⟨.load false 1 (.slot 140), some 141, none⟩, []⟩,
  ⟨⟨.bslice 1 [(.int .i64 (.ofNat 0)), (.int .i64 (.ofNat 0))] [(0, 1, (.slot 137)), (1, 1, (.slot 138))] 2, some 139, none⟩, [⟨.load false 1 (.slot 140), some 141, none⟩]⟩,
  ⟨⟨.call (.const (.func 40 [] [])) [(.slot 131), (.slot 132), (.slot 139), (.slot 141)], some 142, none⟩, []⟩,
  ⟨⟨.mv (.slot 142), some 130, none⟩, []⟩,
  ⟨⟨.extract (.slot 130) 0, some 143, none⟩, []⟩,
  ⟨⟨.extract (.slot 130) 1, some 144, none⟩, []⟩,
  ⟨⟨.mv (.slot 143), some 25, none⟩, []⟩,
  ⟨⟨.mv (.slot 144), some 26, none⟩, []⟩]
def r22_29 : List XLine := [⟨⟨.mv (.slot 26), some 145, none⟩, []⟩,
  ⟨⟨.bin .neq 27 .num (.slot 145) (.const (.int .i64 (.ofNat 0))), some 146, none⟩, []⟩]
def r22_30 : List XLine := [⟨⟨.mv (.slot 26), some 147, none⟩, []⟩,
  ⟨⟨.mv (.slot 147), some 6, none⟩, []⟩]
def r22_31 : List XLine := [⟨⟨.faddr 2 (.slot 15), some 148, none⟩, []⟩,
  ⟨⟨.load false 1 (.slot 148), some 149, none⟩, []⟩]
def r22_32 : List XLine := [⟨⟨.mv (.slot 0), some 150, none⟩, []⟩,
  ⟨⟨.mv (.slot 14), some 151, none⟩, []⟩,
  ⟨⟨.call (.const (.func 46 [] [])) [(.slot 150), (.slot 151)], some 152, none⟩, []⟩,
  ⟨⟨.mv (.slot 152), some 8, none⟩, []⟩]
def r22_33 : List XLine := [⟨⟨.mv (.slot 0), some 153, none⟩, []⟩,
  ⟨⟨.mv (.slot 14), some 154, none⟩, []⟩,
  ⟨⟨.mv (.slot 18), some 155, none⟩, []⟩,
  ⟨⟨.slc 1 (.slot 155) none (some (.const (.int .i64 (.ofNat 1)))) none, some 156, none⟩, []⟩,
  ⟨⟨.call (.const (.func 47 [] [])) [(.slot 153), (.slot 154), (.slot 156)], some 157, none⟩, []⟩,
  ⟨⟨.mv (.slot 157), some 8, none⟩, []⟩]
def r22_34 : List XLine := [⟨⟨.mv (.slot 8), some 158, none⟩, []⟩,
  ⟨⟨.bin .neq 27 .num (.slot 158) (.const (.int .i64 (.ofNat 0))), some 159, none⟩, []⟩]
def r22_35 : List XLine := [⟨⟨.mv (.slot 8), some 160, none⟩, []⟩,
  ⟨⟨.mv (.slot 160), some 6, none⟩, []⟩]
def r22_36 : List XLine := [⟨⟨.bin .add 3 .num (.slot 81) (.const (.int .i64 (.ofNat 1))), some 161, none⟩, []⟩,
  ⟨⟨.mv (.slot 161), some 81, none⟩, []⟩]
def r22_37 : List XLine := [⟨⟨.mv (.slot 0), some 162, none⟩, []⟩,
  ⟨⟨.mv (.slot 7), some 163, none⟩, []⟩,
  ⟨⟨.mv (.slot 1), some 164, none⟩, []⟩,
  ⟨⟨.un .neg (.slot 164), some 165, none⟩, []⟩,
  ⟨⟨.bslice 1 [(.int .i32 (.ofNat 0))] [(0, 1, (.slot 165))] 1, some 166, none⟩, []⟩,
  ⟨⟨.call (.const (.func 47 [] [])) [(.slot 162), (.slot 163), (.slot 166)], some 167, none⟩, []⟩,
  ⟨⟨.mv (.slot 167), some 27, none⟩, []⟩]
def r22_38 : List XLine := [⟨⟨.mv (.slot 27), some 168, none⟩, []⟩,
  ⟨⟨.bin .neq 27 .num (.slot 168) (.const (.int .i64 (.ofNat 0))), some 169, none⟩, []⟩]
def r22_39 : List XLine := [⟨⟨.mv (.slot 27), some 170, none⟩, []⟩,
  ⟨⟨.mv (.slot 170), some 6, none⟩, []⟩]
def r22_40 : List XLine := [⟨⟨.mv (.slot 0), some 171, none⟩, []⟩,
  ⟨⟨.mv (.slot 9), some 172, none⟩, []⟩,
  ⟨⟨.mv (.slot 1), some 173, none⟩, []⟩,
  ⟨⟨.bslice 1 [(.int .i32 (.ofNat 0))] [(0, 1, (.slot 173))] 1, some 174, none⟩, []⟩,
  ⟨⟨.call (.const (.func 47 [] [])) [(.slot 171), (.slot 172), (.slot 174)], some 175, none⟩, []⟩,
  ⟨⟨.mv (.slot 175), some 6, none⟩, []⟩]
def xf22 : XFunc := ⟨(.seq (.region false r22_0)
  (.seq (.region false r22_1)
  (.seq (.seq (.region false r22_2)
  (.cond (.slot 38)
  (.seq (.region false r22_3)
  .ret)
  .skip))
  (.seq (.region false r22_4)
  (.seq (.seq (.region false r22_5)
  (.cond (.slot 50)
  (.seq (.region false r22_6)
  .ret)
  .skip))
  (.seq (.region true r22_7)
  (.seq (.region true r22_8)
  (.seq (.region false r22_9)
  (.seq (.region false r22_10)
  (.seq (.seq (.region false r22_11)
  (.block 0 (.loop (.seq (.region false r22_12)
  (.seq (.cond (.slot 82)
  .skip
  (.exit 0))
  (.seq (.block 1 (.seq (.region false r22_13)
  (.seq (.seq (.region false r22_14)
  (.cond (.slot 92)
  (.exit 1)
  .skip))
  (.seq (.region false r22_15)
  (.seq (.region false r22_16)
  (.seq (.seq (.region false r22_17)
  (.block 2 (.loop (.seq (.region false r22_18)
  (.seq (.cond (.slot 103)
  .skip
  (.exit 2))
  (.seq (.block 3 (.seq (.region false r22_19)
  (.seq (.seq (.region false r22_20)
  (.seq (.region false r22_21)
  (.cond (.slot 112)
  (.seq (.region false r22_22)
  (.region false r22_23))
  .skip)))
  (.region false r22_24))))
  (.region false r22_25)))))))
  (.seq (.seq (.region false r22_26)
  (.seq (.region false r22_27)
  (.cond (.slot 129)
  (.seq (.region true r22_28)
  (.seq (.region false r22_29)
  (.cond (.slot 146)
  (.seq (.region false r22_30)
  .ret)
  .skip)))
  .skip)))
  (.seq (.seq (.region false r22_31)
  (.cond (.slot 149)
  (.region false r22_32)
  (.region false r22_33)))
  (.seq (.region false r22_34)
  (.cond (.slot 159)
  (.seq (.region false r22_35)
  .ret)
  .skip))))))))))
  (.region false r22_36)))))))
  (.seq (.seq (.region false r22_37)
  (.seq (.region false r22_38)
  (.cond (.slot 169)
  (.seq (.region false r22_39)
  .ret)
  .skip)))
  (.seq (.region false r22_40)
  .ret)))))))))))),
  [.tmp 6]⟩
theorem xf22_ok : compFunc Tryz.prog Tryz.f22 = some xf22 := by kernel_rfl
/- threshing/base.entry -/
def r23_0 : List XLine := [⟨⟨.box (.slot 0), some 1, none⟩, []⟩,
  ⟨⟨.alloc [(.int .i64 (.ofNat 0)), .nils, (.bool false)], some 2, none⟩, []⟩]
def r23_1 : List XLine := [⟨⟨.faddr 1 (.slot 1), some 3, none⟩, []⟩,
  ⟨⟨.load false 1 (.slot 3), some 4, none⟩, []⟩,
  ⟨⟨.call (.const (.func 48 [] [])) [(.slot 4)], some 5, none⟩, []⟩,
  ⟨⟨.faddr 1 (.slot 1), some 6, none⟩, []⟩,
  ⟨⟨.store 1 (.slot 6) (.slot 5), none, none⟩, []⟩]
def r23_2 : List XLine := [⟨⟨.load true 3 (.slot 1), some 7, none⟩, []⟩,
  ⟨⟨.store 3 (.slot 2) (.slot 7), none, none⟩, []⟩]
def xf23 : XFunc := ⟨(.seq (.region false r23_0)
  (.seq (.region false r23_1)
  (.seq (.region false r23_2)
  .ret))),
  [.cell 2 true 3]⟩
theorem xf23_ok : compFunc Tryz.prog Tryz.f23 = some xf23 := by kernel_rfl
/- slices.Min[[]int64,int64] -/
def r24_0 : List XLine := [⟨⟨.mv (.const (.int .i64 (.ofNat 0))), some 2, none⟩, []⟩]
def r24_1 : List XLine := [⟨⟨.mv (.slot 0), some 5, none⟩, []⟩,
  ⟨⟨.len .slice (.slot 5), some 6, none⟩, []⟩,
  ⟨⟨.bin .lss 3 .num (.slot 6) (.const (.int .i64 (.ofNat 1))), some 7, none⟩, []⟩]
def r24_2 : List XLine := [⟨⟨.mkif 9 (.const (.str ⟨⟨[115, 108, 105, 99, 101, 115, 46, 77, 105, 110, 58, 32, 101, 109, 112, 116, 121, 32, 108, 105, 115, 116]⟩⟩)), some 8, none⟩, []⟩,
  ⟨⟨.bad, none, none⟩, []⟩]
def r24_3 : List XLine := [⟨⟨.mv (.slot 0), some 9, none⟩, []⟩,
  ⟨⟨.iaddr 1 (.slot 9) (.const (.int .i64 (.ofNat 0))), some 10, none⟩, []⟩,
  ⟨⟨.load false 1 (.slot 10), some 11, none⟩, []⟩,
  ⟨⟨.mv (.slot 11), some 3, none⟩, []⟩]
def r24_4 : List XLine := [⟨⟨.mv (.const (.int .i64 (.ofNat 1))), some 4, none⟩, []⟩]
def r24_5 : List XLine := [⟨⟨.mv (.slot 4), some 12, none⟩, []⟩,
  ⟨⟨.mv (.slot 0), some 13, none⟩, []⟩,
  ⟨⟨.len .slice (.slot 13), some 14, none⟩, []⟩,
  ⟨⟨.bin .lss 3 .num (.slot 12) (.slot 14), some 15, none⟩, []⟩]
def r24_6 : List XLine := [⟨⟨.mv (.slot 3), some 18, none⟩, []⟩,
  ⟨⟨.mv (.slot 0), some 19, none⟩, []⟩,
  ⟨⟨.mv (.slot 4), some 20, none⟩, []⟩,
  ⟨⟨.iaddr 1 (.slot 19) (.slot 20), some 21, none⟩, []⟩,
  ⟨⟨.load false 1 (.slot 21), some 22, none⟩, []⟩,
  ⟨⟨.minmax true (.slot 18) (.slot 22), some 23, none⟩, []⟩,
  ⟨⟨.mv (.slot 23), some 3, none⟩, []⟩]
def r24_7 : List XLine := [⟨⟨.mv (.slot 4), some 16, none⟩, []⟩,
  ⟨⟨.bin .add 3 .num (.slot 16) (.const (.int .i64 (.ofNat 1))), some 17, none⟩, []⟩,
  ⟨⟨.mv (.slot 17), some 4, none⟩, []⟩]
def r24_8 : List XLine := [⟨⟨.mv (.slot 3), some 24, none⟩, []⟩,
  ⟨⟨.mv (.slot 24), some 2, none⟩, []⟩]
def xf24 : XFunc := ⟨(.seq (.region false r24_0)
  (.seq (.seq (.region false r24_1)
  (.cond (.slot 7)
  (.region false r24_2)
  .skip))
  (.seq (.region false r24_3)
  (.seq (.seq (.region false r24_4)
  (.block 0 (.loop (.seq (.seq (.region false r24_5)
  (.cond (.slot 15)
  .skip
  (.exit 0)))
  (.seq (.block 1 (.region false r24_6))
  (.region false r24_7))))))
  (.seq (.region false r24_8)
  .ret))))),
  [.tmp 2]⟩
theorem xf24_ok : compFunc Tryz.prog Tryz.f24 = some xf24 := by kernel_rfl
/- slices.Collect[int64] -/
def r25_0 : List XLine := [⟨⟨.mv (.const .nils), some 2, none⟩, []⟩]
def r25_1 : List XLine := [⟨⟨.mv (.slot 0), some 3, none⟩, []⟩,
  ⟨⟨.call (.const (.func 49 [] [])) [(.const .nils), (.slot 3)], some 4, none⟩, []⟩,
  ⟨⟨.mv (.slot 4), some 2, none⟩, []⟩]
def xf25 : XFunc := ⟨(.seq (.region false r25_0)
  (.seq (.region false r25_1)
  .ret)),
  [.tmp 2]⟩
theorem xf25_ok : compFunc Tryz.prog Tryz.f25 = some xf25 := by kernel_rfl
/- maps.Keys[map[int64]bool,int64,bool] -/
def r26_0 : List XLine := [⟨⟨.box (.slot 0), some 1, none⟩, []⟩,
  ⟨⟨.mv (.const .nilf), some 2, none⟩, []⟩]
def r26_1 : List XLine := [⟨⟨.mkfunc 50 [] [(.slot 1)], some 3, none⟩, []⟩,
  ⟨⟨.mv (.slot 3), some 2, none⟩, []⟩]
def xf26 : XFunc := ⟨(.seq (.region false r26_0)
  (.seq (.region false r26_1)
  .ret)),
  [.tmp 2]⟩
theorem xf26_ok : compFunc Tryz.prog Tryz.f26 = some xf26 := by kernel_rfl
/- slices.Sorted[int64] -/
def r27_0 : List XLine := [⟨⟨.mv (.const .nils), some 2, none⟩, []⟩]
def r27_1 : List XLine := [⟨⟨.mv (.slot 0), some 4, none⟩, []⟩,
  ⟨⟨.call (.const (.func 25 [] [])) [(.slot 4)], some 5, none⟩, []⟩,
  ⟨⟨.mv (.slot 5), some 3, none⟩, []⟩]
def r27_2 : List XLine := [⟨⟨.mv (.slot 3), some 6, none⟩, []⟩,
  ⟨⟨.call (.const (.func 44 [] [])) [(.slot 6)], some 7, none⟩, []⟩]
def r27_3 : List XLine := [⟨⟨.mv (.slot 3), some 8, none⟩, []⟩,
  ⟨⟨.mv (.slot 8), some 2, none⟩, []⟩]
def xf27 : XFunc := ⟨(.seq (.region false r27_0)
  (.seq (.region false r27_1)
  (.seq (.region false r27_2)
  (.seq (.region false r27_3)
  .ret)))),
  [.tmp 2]⟩
theorem xf27_ok : compFunc Tryz.prog Tryz.f27 = some xf27 := by kernel_rfl
/- maps.Keys[map[int64]threshing/api.Entry,int64,threshing/api.Entry] -/
def r28_0 : List XLine := [⟨⟨.box (.slot 0), some 1, none⟩, []⟩,
  ⟨⟨.mv (.const .nilf), some 2, none⟩, []⟩]
def r28_1 : List XLine := [⟨⟨.mkfunc 51 [] [(.slot 1)], some 3, none⟩, []⟩,
  ⟨⟨.mv (.slot 3), some 2, none⟩, []⟩]
def xf28 : XFunc := ⟨(.seq (.region false r28_0)
  (.seq (.region false r28_1)
  .ret)),
  [.tmp 2]⟩
theorem xf28_ok : compFunc Tryz.prog Tryz.f28 = some xf28 := by kernel_rfl
/- (*threshing/base.Base).Stack -/
def r29_0 : List XLine := [⟨⟨.mv (.const .nils), some 2, none⟩, []⟩]
def r29_1 : List XLine := [⟨⟨.mv (.slot 0), some 5, none⟩, []⟩,
  ⟨⟨.bin .eql 22 .ptr (.slot 5) (.const .nilp), some 6, none⟩, []⟩]
def r29_2 : List XLine := [⟨⟨.mv (.const .nils), some 2, none⟩, []⟩]
def r29_3 : List XLine := [⟨⟨.mv (.slot 0), some 7, none⟩, []⟩,
  ⟨⟨.nilCheck (.slot 7), some 8, none⟩, []⟩,
  ⟨⟨.faddr 6 (.slot 8), some 9, none⟩, []⟩,
  ⟨⟨.load false 1 (.slot 9), some 10, none⟩, []⟩,
  ⟨⟨.call (.const (.func 52 [] [])) [(.slot 10)], some 11, none⟩, []⟩,
  ⟨⟨.mv (.slot 11), some 3, none⟩, []⟩]
def r29_4 : List XLine := [⟨⟨.mv (.slot 3), some 12, none⟩, []⟩,
  ⟨⟨.len .slice (.slot 12), some 13, none⟩, []⟩,
  ⟨⟨.mv (.const (.int .i64 (.ofNat 0))), some 14, none⟩, []⟩]
def r29_5 : List XLine := [⟨⟨.bin .lss 3 .num (.slot 14) (.slot 13), some 15, none⟩, []⟩]
def r29_6 : List XLine := [⟨⟨.mv (.slot 14), some 16, none⟩, []⟩,
  ⟨⟨.mv (.slot 16), some 4, none⟩, []⟩]
def r29_7 : List XLine := [⟨⟨.mv (.slot 3), some 17, none⟩, []⟩,
  ⟨⟨.mv (.slot 4), some 18, none⟩, []⟩,
  ⟨⟨.mv (.slot 3), some 19, none⟩, []⟩,
  ⟨⟨.mv (.slot 4), some 20, none⟩, []⟩,
  ⟨⟨.mv (.slot 3), some 21, none⟩, []⟩,
  ⟨⟨.mv (.slot 4), some 22, none⟩, []⟩,
  ⟨⟨.iaddr 2 (.slot 21) (.slot 22), some 23, none⟩, []⟩,
  ⟨⟨.faddr 0 (.slot 23), some 24, none⟩, []⟩,
  ⟨⟨.load false 1 (.slot 24), some 25, none⟩, []⟩,
  ⟨⟨.mv (.slot 3), some 27, none⟩, []⟩,
  ⟨⟨.mv (.slot 4), some 28, none⟩, []⟩,
  ⟨⟨.iaddr 2 (.slot 27) (.slot 28), some 29, none⟩, []⟩,
  ⟨⟨.faddr 1 (.slot 29), some 30, none⟩, []⟩,
  ⟨⟨.load false 1 (.slot 30), some 31, none⟩, []⟩,
  ⟨⟨.call (.const (.func 48 [] [])) [(.slot 25)], some 26, none⟩, [⟨.load false 1 (.slot 30), some 31, none⟩]⟩,
  ⟨⟨.call (.const (.func 48 [] [])) [(.slot 31)], some 32, none⟩, []⟩,
  ⟨⟨.iaddr 2 (.slot 17) (.slot 18), some 33, none⟩, []⟩,
  ⟨⟨.faddr 0 (.slot 33), some 34, none⟩, []⟩,
  ⟨⟨.store 1 (.slot 34) (.slot 26), none, none⟩, []⟩,
  ⟨⟨.iaddr 2 (.slot 19) (.slot 20), some 35, none⟩, []⟩,
  ⟨⟨.faddr 1 (.slot 35), some 36, none⟩, []⟩,
  ⟨⟨.store 1 (.slot 36) (.slot 32), none, none⟩, []⟩]
def r29_8 : List XLine := [⟨⟨.bin .add 3 .num (.slot 14) (.const (.int .i64 (.ofNat 1))), some 37, none⟩, []⟩,
  ⟨⟨.mv (.slot 37), some 14, none⟩, []⟩]
def r29_9 : List XLine := [⟨⟨.mv (.slot 3), some 38, none⟩, []⟩,
  ⟨⟨.mv (.slot 38), some 2, none⟩, []⟩]
def xf29 : XFunc := ⟨(.seq (.region false r29_0)
  (.seq (.seq (.region false r29_1)
  (.cond (.slot 6)
  (.seq (.region false r29_2)
  .ret)
  .skip))
  (.seq (.region false r29_3)
  (.seq (.seq (.region false r29_4)
  (.block 0 (.loop (.seq (.region false r29_5)
  (.seq (.cond (.slot 15)
  .skip
  (.exit 0))
  (.seq (.block 1 (.seq (.region false r29_6)
  (.region true r29_7)))
  (.region false r29_8)))))))
  (.seq (.region false r29_9)
  .ret))))),
  [.tmp 2]⟩
theorem xf29_ok : compFunc Tryz.prog Tryz.f29 = some xf29 := by kernel_rfl
/- threshing/cnf.Right -/
def r30_0 : List XLine := [⟨⟨.box (.slot 0), some 1, none⟩, []⟩,
  ⟨⟨.mv (.const (.int .i64 (.ofNat 0))), some 2, none⟩, []⟩]
def r30_1 : List XLine := [⟨⟨.faddr 0 (.slot 1), some 9, none⟩, []⟩,
  ⟨⟨.load false 1 (.slot 9), some 10, none⟩, []⟩,
  ⟨⟨.bin .lss 3 .num (.slot 10) (.const (.int .i64 (.ofNat 0))), some 11, none⟩, []⟩,
  ⟨⟨.mv (.slot 11), some 8, none⟩, []⟩]
def r30_2 : List XLine := [⟨⟨.faddr 0 (.slot 1), some 12, none⟩, []⟩,
  ⟨⟨.load false 1 (.slot 12), some 13, none⟩, []⟩,
  ⟨⟨.bin .gtr 3 .num (.slot 13) (.const (.int .i64 (.ofNat 1048576))), some 14, none⟩, []⟩,
  ⟨⟨.mv (.slot 14), some 8, none⟩, []⟩]
def r30_3 : List XLine := [⟨⟨.mv (.const (.int .i64 (.ofNat 2))), some 2, none⟩, []⟩]
def r30_4 : List XLine := [⟨⟨.faddr 1 (.slot 1), some 16, none⟩, []⟩,
  ⟨⟨.load false 1 (.slot 16), some 17, none⟩, []⟩,
  ⟨⟨.len .slice (.slot 17), some 18, none⟩, []⟩,
  ⟨⟨.bin .gtr 3 .num (.slot 18) (.const (.int .i64 (.ofNat 1048576))), some 19, none⟩, []⟩,
  ⟨⟨.mv (.slot 19), some 15, none⟩, []⟩]
def r30_5 : List XLine := [⟨⟨.mv (.const (.int .i64 (.ofNat 3))), some 2, none⟩, []⟩]
def r30_6 : List XLine := [⟨⟨.mv (.const (.int .i64 (.ofNat 16777216))), some 3, none⟩, []⟩]
def r30_7 : List XLine := [⟨⟨.faddr 1 (.slot 1), some 20, none⟩, []⟩,
  ⟨⟨.load false 1 (.slot 20), some 21, none⟩, []⟩,
  ⟨⟨.len .slice (.slot 21), some 22, none⟩, []⟩,
  ⟨⟨.mv (.const (.int .i64 (.ofNat 0))), some 23, none⟩, []⟩]
def r30_8 : List XLine := [⟨⟨.bin .lss 3 .num (.slot 23) (.slot 22), some 24, none⟩, []⟩]
def r30_9 : List XLine := [⟨⟨.iaddr 1 (.slot 21) (.slot 23), some 25, none⟩, []⟩,
  ⟨⟨.load false 1 (.slot 25), some 26, none⟩, []⟩,
  ⟨⟨.mv (.slot 26), some 5, none⟩, []⟩]
def r30_10 : List XLine := [⟨⟨.mv (.slot 5), some 27, none⟩, []⟩,
  ⟨⟨.len .slice (.slot 27), some 28, none⟩, []⟩,
  ⟨⟨.mv (.const (.int .i64 (.ofNat 0))), some 29, none⟩, []⟩]
def r30_11 : List XLine := [⟨⟨.bin .lss 3 .num (.slot 29) (.slot 28), some 30, none⟩, []⟩]
def r30_12 : List XLine := [⟨⟨.iaddr 1 (.slot 27) (.slot 29), some 31, none⟩, []⟩,
  ⟨⟨.load false 1 (.slot 31), some 32, none⟩, []⟩,
  ⟨⟨.mv (.slot 32), some 7, none⟩, []⟩]
def r30_13 : List XLine := [⟨⟨.mv (.slot 3), some 33, none⟩, []⟩,
  ⟨⟨.bin .eql 3 .num (.slot 33) (.const (.int .i64 (.ofNat 0))), some 34, none⟩, []⟩]
def r30_14 : List XLine := [⟨⟨.mv (.const (.int .i64 (.ofNat 3))), some 2, none⟩, []⟩]
def r30_15 : List XLine := [⟨⟨.mv (.slot 3), some 35, none⟩, []⟩,
  ⟨⟨.bin .sub 3 .num (.slot 35) (.const (.int .i64 (.ofNat 1))), some 36, none⟩, []⟩,
  ⟨⟨.mv (.slot 36), some 3, none⟩, []⟩]
def r30_16 : List XLine := [⟨⟨.mv (.slot 7), some 37, none⟩, []⟩,
  ⟨⟨.bin .eql 24 .num (.slot 37) (.const (.int .i32 (.ofNat 0))), some 38, none⟩, []⟩,
  ⟨⟨.mv (.slot 38), some 39, none⟩, []⟩,
  ⟨⟨.mv (.slot 7), some 40, some (39, false)⟩, []⟩,
  ⟨⟨.faddr 0 (.slot 1), some 42, some (39, false)⟩, []⟩,
  ⟨⟨.load false 1 (.slot 42), some 43, some (39, false)⟩, []⟩,
  ⟨⟨.call (.const (.func 19 [] [])) [(.slot 40)], some 41, some (39, false)⟩, [⟨.load false 1 (.slot 42), some 43, some (39, false)⟩]⟩,
  ⟨⟨.bin .gtr 3 .num (.slot 41) (.slot 43), some 44, some (39, false)⟩, []⟩,
  ⟨⟨.pick (.slot 39) (.const (.bool true)) (.slot 44), some 45, none⟩, []⟩]
def r30_17 : List XLine := [⟨⟨.mv (.const (.int .i64 (.ofNat 4))), some 2, none⟩, []⟩]
def r30_18 : List XLine := [⟨⟨.bin .add 3 .num (.slot 29) (.const (.int .i64 (.ofNat 1))), some 46, none⟩, []⟩,
  ⟨⟨.mv (.slot 46), some 29, none⟩, []⟩]
def r30_19 : List XLine := [⟨⟨.bin .add 3 .num (.slot 23) (.const (.int .i64 (.ofNat 1))), some 47, none⟩, []⟩,
  ⟨⟨.mv (.slot 47), some 23, none⟩, []⟩]
def r30_20 : List XLine := [⟨⟨.mv (.const (.int .i64 (.ofNat 0))), some 2, none⟩, []⟩]
def xf30 : XFunc := ⟨(.seq (.region false r30_0)
  (.seq (.block 0 (.seq (.seq (.region false r30_1)
  (.cond (.slot 8)
  .skip
  (.region false r30_2)))
  (.cond (.slot 8)
  (.seq (.region false r30_3)
  .ret)
  (.seq (.region false r30_4)
  (.cond (.slot 15)
  (.seq (.region false r30_5)
  .ret)
  .skip)))))
  (.seq (.region false r30_6)
  (.seq (.seq (.region false r30_7)
  (.block 1 (.loop (.seq (.region false r30_8)
  (.seq (.cond (.slot 24)
  .skip
  (.exit 1))
  (.seq (.block 2 (.seq (.region false r30_9)
  (.seq (.region false r30_10)
  (.block 3 (.loop (.seq (.region false r30_11)
  (.seq (.cond (.slot 30)
  .skip
  (.exit 3))
  (.seq (.block 4 (.seq (.region false r30_12)
  (.seq (.seq (.region false r30_13)
  (.cond (.slot 34)
  (.seq (.region false r30_14)
  .ret)
  .skip))
  (.seq (.region false r30_15)
  (.seq (.region true r30_16)
  (.cond (.slot 45)
  (.seq (.region false r30_17)
  .ret)
  .skip))))))
  (.region false r30_18)))))))))
  (.region false r30_19)))))))
  (.seq (.region false r30_20)
  .ret))))),
  [.tmp 2]⟩
theorem xf30_ok : compFunc Tryz.prog Tryz.f30 = some xf30 := by kernel_rfl
/- (*threshing/base.Base).put -/
def r31_0 : List XLine := [⟨⟨.mv (.slot 0), some 8, none⟩, []⟩,
  ⟨⟨.nilCheck (.slot 8), some 9, none⟩, []⟩,
  ⟨⟨.faddr 4 (.slot 9), some 10, none⟩, []⟩,
  ⟨⟨.load false 1 (.slot 10), some 11, none⟩, []⟩,
  ⟨⟨.bin .add 2 .num (.slot 11) (.const (.int .i64 (.ofNat 1))), some 12, none⟩, []⟩,
  ⟨⟨.nilCheck (.slot 8), some 13, none⟩, []⟩,
  ⟨⟨.faddr 4 (.slot 13), some 14, none⟩, []⟩,
  ⟨⟨.store 1 (.slot 14) (.slot 12), none, none⟩, []⟩]
def r31_1 : List XLine := [⟨⟨.mv (.slot 0), some 15, none⟩, []⟩,
  ⟨⟨.nilCheck (.slot 15), some 16, none⟩, []⟩,
  ⟨⟨.faddr 1 (.slot 16), some 17, none⟩, []⟩,
  ⟨⟨.load false 1 (.slot 17), some 18, none⟩, []⟩,
  ⟨⟨.mv (.slot 0), some 19, none⟩, []⟩,
  ⟨⟨.nilCheck (.slot 19), some 20, none⟩, []⟩,
  ⟨⟨.faddr 4 (.slot 20), some 21, none⟩, []⟩,
  ⟨⟨.load false 1 (.slot 21), some 22, none⟩, []⟩,
  ⟨⟨.mv (.slot 0), some 23, none⟩, []⟩,
  ⟨⟨.nilCheck (.slot 23), some 24, none⟩, []⟩,
  ⟨⟨.faddr 4 (.slot 24), some 25, none⟩, []⟩,
  ⟨⟨.load false 1 (.slot 25), some 26, none⟩, []⟩,
  ⟨⟨.mv (.slot 1), some 27, none⟩, []⟩,
  ⟨⟨.mv (.slot 2), some 29, none⟩, []⟩,
  ⟨⟨.call (.const (.func 48 [] [])) [(.slot 27)], some 28, none⟩, [⟨.load false 1 (.slot 17), some 18, none⟩, ⟨.load false 1 (.slot 21), some 22, none⟩, ⟨.load false 1 (.slot 25), some 26, none⟩]⟩,
  ⟨⟨.build [(.int .i64 (.ofNat 0)), .nils, (.bool false)] [(0, 1, (.slot 26)), (1, 1, (.slot 28)), (2, 1, (.slot 29))], some 30, none⟩, []⟩,
  ⟨⟨.mapup .i64 (.slot 18) (.slot 22) (.slot 30), none, none⟩, []⟩]
def r31_2 : List XLine := [⟨⟨.mv (.slot 1), some 31, none⟩, []⟩,
  ⟨⟨.len .slice (.slot 31), some 32, none⟩, []⟩,
  ⟨⟨.bin .eql 3 .num (.slot 32) (.const (.int .i64 (.ofNat 0))), some 33, none⟩, []⟩]
def r31_3 : List XLine := [⟨⟨.mv (.slot 0), some 34, none⟩, []⟩,
  ⟨⟨.nilCheck (.slot 34), some 35, none⟩, []⟩,
  ⟨⟨.faddr 3 (.slot 35), some 36, none⟩, []⟩,
  ⟨⟨.load false 1 (.slot 36), some 37, none⟩, []⟩,
  ⟨⟨.mv (.slot 0), some 38, none⟩, []⟩,
  ⟨⟨.nilCheck (.slot 38), some 39, none⟩, []⟩,
  ⟨⟨.faddr 4 (.slot 39), some 40, none⟩, []⟩,
  ⟨⟨.load false 1 (.slot 40), some 41, none⟩, []⟩,
  ⟨⟨.mapup .i64 (.slot 37) (.slot 41) (.const (.bool true)), none, none⟩, []⟩]
def r31_4 : List XLine := [⟨⟨.mv (.slot 1), some 42, none⟩, []⟩,
  ⟨⟨.len .slice (.slot 42), some 43, none⟩, []⟩,
  ⟨⟨.mv (.const (.int .i64 (.ofNat 0))), some 44, none⟩, []⟩]
def r31_5 : List XLine := [⟨⟨.bin .lss 3 .num (.slot 44) (.slot 43), some 45, none⟩, []⟩]
def r31_6 : List XLine := [⟨⟨.iaddr 1 (.slot 42) (.slot 44), some 46, none⟩, []⟩,
  ⟨⟨.load false 1 (.slot 46), some 47, none⟩, []⟩,
  ⟨⟨.mv (.slot 47), some 7, none⟩, []⟩]
def r31_7 : List XLine := [⟨⟨.mv (.slot 0), some 48, none⟩, []⟩,
  ⟨⟨.nilCheck (.slot 48), some 49, none⟩, []⟩,
  ⟨⟨.faddr 2 (.slot 49), some 50, none⟩, []⟩,
  ⟨⟨.load false 1 (.slot 50), some 51, none⟩, []⟩,
  ⟨⟨.mv (.slot 7), some 52, none⟩, []⟩,
  ⟨⟨.lookup .i32 .nilm (.slot 51) (.slot 52) false, some 53, none⟩, []⟩,
  ⟨⟨.bin .eql 66 .map (.slot 53) (.const .nilm), some 54, none⟩, []⟩]
def r31_8 : List XLine := [⟨⟨.mv (.slot 0), some 55, none⟩, []⟩,
  ⟨⟨.nilCheck (.slot 55), some 56, none⟩, []⟩,
  ⟨⟨.faddr 2 (.slot 56), some 57, none⟩, []⟩,
  ⟨⟨.load false 1 (.slot 57), some 58, none⟩, []⟩,
  ⟨⟨.mv (.slot 7), some 59, none⟩, []⟩,
  ⟨⟨.mkmap .i64, some 60, none⟩, []⟩,
  ⟨⟨.mapup .i32 (.slot 58) (.slot 59) (.slot 60), none, none⟩, []⟩]
def r31_9 : List XLine := [⟨⟨.mv (.slot 0), some 61, none⟩, []⟩,
  ⟨⟨.nilCheck (.slot 61), some 62, none⟩, []⟩,
  ⟨⟨.faddr 2 (.slot 62), some 63, none⟩, []⟩,
  ⟨⟨.load false 1 (.slot 63), some 64, none⟩, []⟩,
  ⟨⟨.mv (.slot 7), some 65, none⟩, []⟩,
  ⟨⟨.lookup .i32 .nilm (.slot 64) (.slot 65) false, some 66, none⟩, []⟩,
  ⟨⟨.mv (.slot 0), some 67, none⟩, []⟩,
  ⟨⟨.nilCheck (.slot 67), some 68, none⟩, []⟩,
  ⟨⟨.faddr 4 (.slot 68), some 69, none⟩, []⟩,
  ⟨⟨.load false 1 (.slot 69), some 70, none⟩, []⟩,
  ⟨⟨.mapup .i64 (.slot 66) (.slot 70) (.const (.bool true)), none, none⟩, []⟩]
def r31_10 : List XLine := [⟨⟨.bin .add 3 .num (.slot 44) (.const (.int .i64 (.ofNat 1))), some 71, none⟩, []⟩,
  ⟨⟨.mv (.slot 71), some 44, none⟩, []⟩]
def xf31 : XFunc := ⟨(.seq (.region false r31_0)
  (.seq (.region true r31_1)
  (.seq (.seq (.region false r31_2)
  (.cond (.slot 33)
  (.region true r31_3)
  .skip))
  (.seq (.region false r31_4)
  (.block 0 (.loop (.seq (.region false r31_5)
  (.seq (.cond (.slot 45)
  .skip
  (.exit 0))
  (.seq (.block 1 (.seq (.region false r31_6)
  (.seq (.seq (.region false r31_7)
  (.cond (.slot 54)
  (.region false r31_8)
  .skip))
  (.region true r31_9))))
  (.region false r31_10)))))))))),
  []⟩
theorem xf31_ok : compFunc Tryz.prog Tryz.f31 = some xf31 := by kernel_rfl
/- threshing/cnf.Normal -/
def r32_0 : List XLine := [⟨⟨.mv (.const .nils), some 2, none⟩, []⟩,
  ⟨⟨.mv (.const (.bool false)), some 3, none⟩, []⟩]
def r32_1 : List XLine := [⟨⟨.mv (.slot 0), some 7, none⟩, []⟩,
  ⟨⟨.call (.const (.func 48 [] [])) [(.slot 7)], some 8, none⟩, []⟩,
  ⟨⟨.mv (.slot 8), some 4, none⟩, []⟩]
def r32_2 : List XLine := [⟨⟨.mv (.slot 4), some 9, none⟩, []⟩,
  ⟨⟨.call (.const (.func 53 [] [])) [(.slot 9), (.const (.func 54 [] []))], some 10, none⟩, []⟩]
def r32_3 : List XLine := [⟨⟨.mv (.slot 4), some 11, none⟩, []⟩,
  ⟨⟨.call (.const (.func 55 [] [])) [(.slot 11)], some 12, none⟩, []⟩,
  ⟨⟨.mv (.slot 12), some 4, none⟩, []⟩]
def r32_4 : List XLine := [⟨⟨.mv (.const (.bool false)), some 5, none⟩, []⟩]
def r32_5 : List XLine := [⟨⟨.mv (.slot 4), some 13, none⟩, []⟩,
  ⟨⟨.len .slice (.slot 13), some 14, none⟩, []⟩,
  ⟨⟨.mv (.const (.int .i64 (.ofNat 0))), some 15, none⟩, []⟩]
def r32_6 : List XLine := [⟨⟨.bin .lss 3 .num (.slot 15) (.slot 14), some 16, none⟩, []⟩]
def r32_7 : List XLine := [⟨⟨.mv (.slot 15), some 17, none⟩, []⟩,
  ⟨⟨.mv (.slot 17), some 6, none⟩, []⟩]
def r32_8 : List XLine := [⟨⟨.mv (.slot 5), some 18, none⟩, []⟩,
  ⟨⟨.mv (.slot 18), some 19, none⟩, []⟩,
  ⟨⟨.mv (.slot 6), some 20, some (19, false)⟩, []⟩,
  ⟨⟨.bin .gtr 3 .num (.slot 20) (.const (.int .i64 (.ofNat 0))), some 21, some (19, false)⟩, []⟩,
  ⟨⟨.mv (.slot 21), some 22, some (19, false)⟩, []⟩,
  ⟨⟨.mv (.slot 4), some 23, some (22, true)⟩, []⟩,
  ⟨⟨.mv (.slot 6), some 24, some (22, true)⟩, []⟩,
  ⟨⟨.iaddr 1 (.slot 23) (.slot 24), some 25, some (22, true)⟩, []⟩,
  ⟨⟨.load false 1 (.slot 25), some 26, some (22, true)⟩, []⟩,
  ⟨⟨.bin .gtr 24 .num (.slot 26) (.const (.int .i32 (.ofNat 0))), some 27, some (22, true)⟩, []⟩,
  ⟨⟨.pick (.slot 22) (.slot 27) (.const (.bool false)), some 28, some (19, false)⟩, []⟩,
  ⟨⟨.mv (.slot 28), some 29, some (19, false)⟩, []⟩,
  ⟨⟨.mv (.slot 4), some 30, some (29, true)⟩, []⟩,
  ⟨⟨.mv (.slot 6), some 31, some (29, true)⟩, []⟩,
  ⟨⟨.iaddr 1 (.slot 30) (.slot 31), some 32, some (29, true)⟩, []⟩,
  ⟨⟨.load false 1 (.slot 32), some 33, some (29, true)⟩, []⟩,
  ⟨⟨.mv (.slot 4), some 34, some (29, true)⟩, []⟩,
  ⟨⟨.mv (.slot 6), some 35, some (29, true)⟩, []⟩,
  ⟨⟨.bin .sub 3 .num (.slot 35) (.const (.int .i64 (.ofNat 1))), some 36, some (29, true)⟩, []⟩,
  ⟨⟨.iaddr 1 (.slot 34) (.slot 36), some 37, some (29, true)⟩, []⟩,
  ⟨⟨.load false 1 (.slot 37), some 38, some (29, true)⟩, []⟩,
  ⟨⟨.un .neg (.slot 38), some 39, some (29, true)⟩, []⟩,
  ⟨⟨.bin .eql 24 .num (.slot 33) (.slot 39), some 40, some (29, true)⟩, []⟩,
  ⟨⟨.pick (.slot 29) (.slot 40) (.const (.bool false)), some 41, some (19, false)⟩, []⟩,
  ⟨⟨.pick (.slot 19) (.const (.bool true)) (.slot 41), some 42, none⟩, []⟩,
  ⟨⟨.mv (.slot 42), some 5, none⟩, []⟩]
def r32_9 : List XLine := [⟨⟨.bin .add 3 .num (.slot 15) (.const (.int .i64 (.ofNat 1))), some 43, none⟩, []⟩,
  ⟨⟨.mv (.slot 43), some 15, none⟩, []⟩]
def r32_10 : List XLine := [⟨⟨.mv (.slot 4), some 44, none⟩, []⟩,
  ⟨⟨.call (.const (.func 56 [] [])) [(.slot 44)], some 45, none⟩, []⟩,
  ⟨⟨.mv (.slot 5), some 46, none⟩, []⟩,
  ⟨⟨.mv (.slot 45), some 2, none⟩, []⟩,
  ⟨⟨.mv (.slot 46), some 3, none⟩, []⟩]
def xf32 : XFunc := ⟨(.seq (.region false r32_0)
  (.seq (.region false r32_1)
  (.seq (.region false r32_2)
  (.seq (.region false r32_3)
  (.seq (.region false r32_4)
  (.seq (.seq (.region false r32_5)
  (.block 0 (.loop (.seq (.region false r32_6)
  (.seq (.cond (.slot 16)
  .skip
  (.exit 0))
  (.seq (.block 1 (.seq (.region false r32_7)
  (.region true r32_8)))
  (.region false r32_9)))))))
  (.seq (.region false r32_10)
  .ret))))))),
  [.tmp 2, .tmp 3]⟩
theorem xf32_ok : compFunc Tryz.prog Tryz.f32 = some xf32 := by kernel_rfl
/- container/heap.Init -/
def r33_0 : List XLine := [⟨⟨.mv (.slot 0), some 4, none⟩, []⟩,
  ⟨⟨.invoke (.slot 4) [(17, 133, none), (89, 59, none), (93, 59, some (false, 1))] [], some 5, none⟩, []⟩,
  ⟨⟨.mv (.slot 5), some 2, none⟩, []⟩]
def r33_1 : List XLine := [⟨⟨.mv (.slot 2), some 6, none⟩, []⟩,
  ⟨⟨.bin .quo 3 .num (.slot 6) (.const (.int .i64 (.ofNat 2))), some 7, none⟩, []⟩,
  ⟨⟨.bin .sub 3 .num (.slot 7) (.const (.int .i64 (.ofNat 1))), some 8, none⟩, []⟩,
  ⟨⟨.mv (.slot 8), some 3, none⟩, []⟩]
def r33_2 : List XLine := [⟨⟨.mv (.slot 3), some 9, none⟩, []⟩,
  ⟨⟨.bin .geq 3 .num (.slot 9) (.const (.int .i64 (.ofNat 0))), some 10, none⟩, []⟩]
def r33_3 : List XLine := [⟨⟨.mv (.slot 0), some 13, none⟩, []⟩,
  ⟨⟨.mv (.slot 3), some 14, none⟩, []⟩,
  ⟨⟨.mv (.slot 2), some 15, none⟩, []⟩,
  ⟨⟨.call (.const (.func 57 [] [])) [(.slot 13), (.slot 14), (.slot 15)], some 16, none⟩, []⟩]
def r33_4 : List XLine := [⟨⟨.mv (.slot 3), some 11, none⟩, []⟩,
  ⟨⟨.bin .sub 3 .num (.slot 11) (.const (.int .i64 (.ofNat 1))), some 12, none⟩, []⟩,
  ⟨⟨.mv (.slot 12), some 3, none⟩, []⟩]
def xf33 : XFunc := ⟨(.seq (.region false r33_0)
  (.seq (.region false r33_1)
  (.block 0 (.loop (.seq (.seq (.region false r33_2)
  (.cond (.slot 10)
  .skip
  (.exit 0)))
  (.seq (.block 1 (.region false r33_3))
  (.region false r33_4))))))),
  []⟩
theorem xf33_ok : compFunc Tryz.prog Tryz.f33 = some xf33 := by kernel_rfl
/- (*threshing/unit.state).set -/
def r34_0 : List XLine := [⟨⟨.mv (.slot 0), some 6, none⟩, []⟩,
  ⟨⟨.nilCheck (.slot 6), some 7, none⟩, []⟩,
  ⟨⟨.faddr 3 (.slot 7), some 8, none⟩, []⟩,
  ⟨⟨.load false 1 (.slot 8), some 9, none⟩, []⟩,
  ⟨⟨.mv (.slot 1), some 10, none⟩, []⟩,
  ⟨⟨.mapup .i32 (.slot 9) (.slot 10) (.const (.bool true)), none, none⟩, []⟩]
def r34_1 : List XLine := [⟨⟨.mv (.slot 0), some 11, none⟩, []⟩,
  ⟨⟨.nilCheck (.slot 11), some 12, none⟩, []⟩,
  ⟨⟨.faddr 2 (.slot 12), some 13, none⟩, []⟩,
  ⟨⟨.load false 1 (.slot 13), some 14, none⟩, []⟩,
  ⟨⟨.mv (.slot 1), some 15, none⟩, []⟩,
  ⟨⟨.un .neg (.slot 15), some 16, none⟩, []⟩,
  ⟨⟨.lookup .i32 .nils (.slot 14) (.slot 16) false, some 17, none⟩, []⟩,
  ⟨⟨.len .slice (.slot 17), some 18, none⟩, []⟩,
  ⟨⟨.mv (.const (.int .i64 (.ofNat 0))), some 19, none⟩, []⟩]
def r34_2 : List XLine := [⟨⟨.bin .lss 3 .num (.slot 19) (.slot 18), some 20, none⟩, []⟩]
def r34_3 : List XLine := [⟨⟨.iaddr 1 (.slot 17) (.slot 19), some 21, none⟩, []⟩,
  ⟨⟨.load false 1 (.slot 21), some 22, none⟩, []⟩,
  ⟨⟨.mv (.slot 22), some 5, none⟩, []⟩]
def r34_4 : List XLine := [⟨⟨.mv (.slot 0), some 23, none⟩, []⟩,
  ⟨⟨.nilCheck (.slot 23), some 24, none⟩, []⟩,
  ⟨⟨.faddr 1 (.slot 24), some 25, none⟩, []⟩,
  ⟨⟨.load false 1 (.slot 25), some 26, none⟩, []⟩,
  ⟨⟨.mv (.slot 5), some 27, none⟩, []⟩,
  ⟨⟨.lookup .i64 (.int .i64 (.ofNat 0)) (.slot 26) (.slot 27) false, some 28, none⟩, []⟩,
  ⟨⟨.bin .sub 3 .num (.slot 28) (.const (.int .i64 (.ofNat 1))), some 29, none⟩, []⟩,
  ⟨⟨.mapup .i64 (.slot 26) (.slot 27) (.slot 29), none, none⟩, []⟩]
def r34_5 : List XLine := [⟨⟨.mv (.slot 0), some 30, none⟩, []⟩,
  ⟨⟨.nilCheck (.slot 30), some 31, none⟩, []⟩,
  ⟨⟨.faddr 1 (.slot 31), some 32, none⟩, []⟩,
  ⟨⟨.load false 1 (.slot 32), some 33, none⟩, []⟩,
  ⟨⟨.mv (.slot 5), some 34, none⟩, []⟩,
  ⟨⟨.lookup .i64 (.int .i64 (.ofNat 0)) (.slot 33) (.slot 34) false, some 35, none⟩, []⟩,
  ⟨⟨.bin .leq 3 .num (.slot 35) (.const (.int .i64 (.ofNat 1))), some 36, none⟩, []⟩]
def r34_6 : List XLine := [⟨⟨.mv (.slot 0), some 37, none⟩, []⟩,
  ⟨⟨.nilCheck (.slot 37), some 38, none⟩, []⟩,
  ⟨⟨.faddr 4 (.slot 38), some 39, none⟩, []⟩,
  ⟨⟨.mkif 93 (.slot 39), some 40, none⟩, []⟩,
  ⟨⟨.mv (.slot 5), some 41, none⟩, []⟩,
  ⟨⟨.mkif 2 (.slot 41), some 42, none⟩, []⟩,
  ⟨⟨.call (.const (.func 58 [] [])) [(.slot 40), (.slot 42)], some 43, none⟩, []⟩]
def r34_7 : List XLine := [⟨⟨.bin .add 3 .num (.slot 19) (.const (.int .i64 (.ofNat 1))), some 44, none⟩, []⟩,
  ⟨⟨.mv (.slot 44), some 19, none⟩, []⟩]
def xf34 : XFunc := ⟨(.seq (.region false r34_0)
  (.seq (.region false r34_1)
  (.block 0 (.loop (.seq (.region false r34_2)
  (.seq (.cond (.slot 20)
  .skip
  (.exit 0))
  (.seq (.block 1 (.seq (.region false r34_3)
  (.seq (.region false r34_4)
  (.seq (.region false r34_5)
  (.cond (.slot 36)
  (.region false r34_6)
  .skip)))))
  (.region false r34_7)))))))),
  []⟩
theorem xf34_ok : compFunc Tryz.prog Tryz.f34 = some xf34 := by kernel_rfl
/- (*threshing/unit.state).next -/
def r35_0 : List XLine := [⟨⟨.box (.slot 0), some 1, none⟩, []⟩,
  ⟨⟨.mv (.const (.int .i64 (.ofNat 0))), some 2, none⟩, []⟩,
  ⟨⟨.mv (.const (.int .i32 (.ofNat 0))), some 3, none⟩, []⟩,
  ⟨⟨.mv (.const (.bool false)), some 4, none⟩, []⟩]
def r35_1 : List XLine := [⟨⟨.load false 1 (.slot 1), some 8, none⟩, []⟩,
  ⟨⟨.nilCheck (.slot 8), some 9, none⟩, []⟩,
  ⟨⟨.faddr 4 (.slot 9), some 10, none⟩, []⟩,
  ⟨⟨.load false 1 (.slot 10), some 11, none⟩, []⟩,
  ⟨⟨.call (.const (.func 59 [] [])) [(.slot 11)], some 12, none⟩, []⟩,
  ⟨⟨.bin .gtr 3 .num (.slot 12) (.const (.int .i64 (.ofNat 0))), some 13, none⟩, []⟩]
def r35_2 : List XLine := [⟨⟨.load false 1 (.slot 1), some 14, none⟩, []⟩,
  ⟨⟨.nilCheck (.slot 14), some 15, none⟩, []⟩,
  ⟨⟨.faddr 4 (.slot 15), some 16, none⟩, []⟩,
  ⟨⟨.mkif 93 (.slot 16), some 17, none⟩, []⟩,
  ⟨⟨.call (.const (.func 60 [] [])) [(.slot 17)], some 18, none⟩, []⟩,
  ⟨⟨.tassert 2 (.int .i64 (.ofNat 0)) false (.slot 18), some 19, none⟩, []⟩,
  ⟨⟨.mv (.slot 19), some 5, none⟩, []⟩]
def r35_3 : List XLine := [⟨⟨.mkfunc 61 [] [(.slot 1)], some 20, none⟩, []⟩,
  ⟨⟨.mv (.slot 20), some 6, none⟩, []⟩]
def r35_4 : List XLine := [⟨⟨.load false 1 (.slot 1), some 21, none⟩, []⟩,
  ⟨⟨.nilCheck (.slot 21), some 22, none⟩, []⟩,
  ⟨⟨.faddr 0 (.slot 22), some 23, none⟩, []⟩,
  ⟨⟨.load false 1 (.slot 23), some 24, none⟩, []⟩,
  ⟨⟨.mv (.slot 5), some 25, none⟩, []⟩,
  ⟨⟨.lookup .i64 .nils (.slot 24) (.slot 25) false, some 26, none⟩, []⟩,
  ⟨⟨.mv (.slot 6), some 27, none⟩, []⟩,
  ⟨⟨.call (.const (.func 62 [] [])) [(.slot 26), (.slot 27)], some 28, none⟩, []⟩]
def r35_5 : List XLine := [⟨⟨.load false 1 (.slot 1), some 29, none⟩, []⟩,
  ⟨⟨.nilCheck (.slot 29), some 30, none⟩, []⟩,
  ⟨⟨.faddr 0 (.slot 30), some 31, none⟩, []⟩,
  ⟨⟨.load false 1 (.slot 31), some 32, none⟩, []⟩,
  ⟨⟨.mv (.slot 5), some 33, none⟩, []⟩,
  ⟨⟨.lookup .i64 .nils (.slot 32) (.slot 33) false, some 34, none⟩, []⟩,
  ⟨⟨.mkfunc 64 [] [(.slot 1)], some 35, none⟩, []⟩,
  ⟨⟨.call (.const (.func 63 [] [])) [(.slot 34), (.slot 35)], some 36, none⟩, []⟩,
  ⟨⟨.mv (.slot 36), some 7, none⟩, []⟩]
def r35_6 : List XLine := [⟨⟨.mv (.slot 7), some 37, none⟩, []⟩,
  ⟨⟨.bin .lss 3 .num (.slot 37) (.const (.int .i64 (.ofNat 0))), some 38, none⟩, []⟩]
def r35_7 : List XLine := [⟨⟨.mv (.slot 5), some 39, none⟩, []⟩,
  ⟨⟨.mv (.slot 39), some 2, none⟩, []⟩,
  ⟨⟨.mv (.const (.int .i32 (.ofNat 0))), some 3, none⟩, []⟩,
  ⟨⟨.mv (.const (.bool true)), some 4, none⟩, []⟩]
def r35_8 : List XLine := [⟨⟨.mv (.slot 5), some 40, none⟩, []⟩,
  ⟨⟨.load false 1 (.slot 1), some 41, none⟩, []⟩,
  ⟨⟨.nilCheck (.slot 41), some 42, none⟩, []⟩,
  ⟨⟨.faddr 0 (.slot 42), some 43, none⟩, []⟩,
  ⟨⟨.load false 1 (.slot 43), some 44, none⟩, []⟩,
  ⟨⟨.mv (.slot 5), some 45, none⟩, []⟩,
  ⟨⟨.lookup .i64 .nils (.slot 44) (.slot 45) false, some 46, none⟩, []⟩,
  ⟨⟨.mv (.slot 7), some 47, none⟩, []⟩,
  ⟨⟨.iaddr 1 (.slot 46) (.slot 47), some 48, none⟩, []⟩,
  ⟨⟨.load false 1 (.slot 48), some 49, none⟩, []⟩,
  ⟨⟨.mv (.slot 40), some 2, none⟩, []⟩,
  ⟨⟨.mv (.slot 49), some 3, none⟩, []⟩,
  ⟨⟨.mv (.const (.bool true)), some 4, none⟩, []⟩]
def r35_9 : List XLine := [⟨⟨.mv (.const (.int .i64 (.ofNat 0))), some 2, none⟩, []⟩,
  ⟨⟨.mv (.const (.int .i32 (.ofNat 0))), some 3, none⟩, []⟩,
  ⟨⟨.mv (.const (.bool false)), some 4, none⟩, []⟩]
def xf35 : XFunc := ⟨(.seq (.region false r35_0)
  (.seq (.block 0 (.loop (.seq (.seq (.region false r35_1)
  (.cond (.slot 13)
  .skip
  (.exit 0)))
  (.block 1 (.seq (.region false r35_2)
  (.seq (.region false r35_3)
  (.seq (.seq (.region false r35_4)
  (.cond (.slot 28)
  (.exit 1)
  .skip))
  (.seq (.region false r35_5)
  (.seq (.seq (.region false r35_6)
  (.cond (.slot 38)
  (.seq (.region false r35_7)
  .ret)
  .skip))
  (.seq (.region true r35_8)
  .ret))))))))))
  (.seq (.region false r35_9)
  .ret))),
  [.tmp 2, .tmp 3, .tmp 4]⟩
theorem xf35_ok : compFunc Tryz.prog Tryz.f35 = some xf35 := by kernel_rfl
/- (threshing/equal.graph).classes$1 -/
def r36_0 : List XLine := [⟨⟨.load false 1 (.slot 1), some 14, none⟩, []⟩,
  ⟨⟨.mv (.slot 0), some 15, none⟩, []⟩,
  ⟨⟨.load false 1 (.slot 1), some 16, none⟩, []⟩,
  ⟨⟨.len .map (.slot 16), some 17, none⟩, []⟩,
  ⟨⟨.bin .add 3 .num (.slot 17) (.const (.int .i64 (.ofNat 1))), some 18, none⟩, []⟩,
  ⟨⟨.mapup .i32 (.slot 14) (.slot 15) (.slot 18), none, none⟩, []⟩]
def r36_1 : List XLine := [⟨⟨.load false 1 (.slot 2), some 19, none⟩, []⟩,
  ⟨⟨.mv (.slot 0), some 20, none⟩, []⟩,
  ⟨⟨.load false 1 (.slot 1), some 21, none⟩, []⟩,
  ⟨⟨.mv (.slot 0), some 22, none⟩, []⟩,
  ⟨⟨.lookup .i32 (.int .i64 (.ofNat 0)) (.slot 21) (.slot 22) false, some 23, none⟩, []⟩,
  ⟨⟨.mapup .i32 (.slot 19) (.slot 20) (.slot 23), none, none⟩, []⟩]
def r36_2 : List XLine := [⟨⟨.load false 1 (.slot 3), some 24, none⟩, []⟩,
  ⟨⟨.mv (.slot 0), some 25, none⟩, []⟩,
  ⟨⟨.bslice 1 [(.int .i32 (.ofNat 0))] [(0, 1, (.slot 25))] 1, some 26, none⟩, []⟩,
  ⟨⟨.append 1 4 (.slot 24) (.slot 26), some 27, none⟩, []⟩,
  ⟨⟨.store 1 (.slot 3) (.slot 27), none, none⟩, []⟩]
def r36_3 : List XLine := [⟨⟨.load false 1 (.slot 4), some 28, none⟩, []⟩,
  ⟨⟨.mv (.slot 0), some 29, none⟩, []⟩,
  ⟨⟨.mapup .i32 (.slot 28) (.slot 29) (.const (.bool true)), none, none⟩, []⟩]
def r36_4 : List XLine := [⟨⟨.load false 1 (.slot 5), some 30, none⟩, []⟩,
  ⟨⟨.mv (.slot 0), some 31, none⟩, []⟩,
  ⟨⟨.lookup .i32 .nils (.slot 30) (.slot 31) false, some 32, none⟩, []⟩,
  ⟨⟨.len .slice (.slot 32), some 33, none⟩, []⟩,
  ⟨⟨.mv (.const (.int .i64 (.ofNat 0))), some 34, none⟩, []⟩]
def r36_5 : List XLine := [⟨⟨.bin .lss 3 .num (.slot 34) (.slot 33), some 35, none⟩, []⟩]
def r36_6 : List XLine := [⟨⟨.iaddr 1 (.slot 32) (.slot 34), some 36, none⟩, []⟩,
  ⟨⟨.load false 1 (.slot 36), some 37, none⟩, []⟩,
  ⟨⟨.mv (.slot 37), some 10, none⟩, []⟩]
def r36_7 : List XLine := [⟨⟨.load false 1 (.slot 1), some 38, none⟩, []⟩,
  ⟨⟨.mv (.slot 10), some 39, none⟩, []⟩,
  ⟨⟨.lookup .i32 (.int .i64 (.ofNat 0)) (.slot 38) (.slot 39) false, some 40, none⟩, []⟩,
  ⟨⟨.bin .eql 3 .num (.slot 40) (.const (.int .i64 (.ofNat 0))), some 41, none⟩, []⟩]
def r36_8 : List XLine := [⟨⟨.load false 1 (.slot 6), some 42, none⟩, []⟩,
  ⟨⟨.mv (.slot 10), some 43, none⟩, []⟩,
  ⟨⟨.call (.slot 42) [(.slot 43)], some 44, none⟩, []⟩]
def r36_9 : List XLine := [⟨⟨.load false 1 (.slot 2), some 45, none⟩, []⟩,
  ⟨⟨.mv (.slot 0), some 46, none⟩, []⟩,
  ⟨⟨.load false 1 (.slot 2), some 47, none⟩, []⟩,
  ⟨⟨.mv (.slot 0), some 48, none⟩, []⟩,
  ⟨⟨.lookup .i32 (.int .i64 (.ofNat 0)) (.slot 47) (.slot 48) false, some 49, none⟩, []⟩,
  ⟨⟨.load false 1 (.slot 2), some 50, none⟩, []⟩,
  ⟨⟨.mv (.slot 10), some 51, none⟩, []⟩,
  ⟨⟨.lookup .i32 (.int .i64 (.ofNat 0)) (.slot 50) (.slot 51) false, some 52, none⟩, []⟩,
  ⟨⟨.minmax true (.slot 49) (.slot 52), some 53, none⟩, []⟩,
  ⟨⟨.mapup .i32 (.slot 45) (.slot 46) (.slot 53), none, none⟩, []⟩]
def r36_10 : List XLine := [⟨⟨.load false 1 (.slot 4), some 54, none⟩, []⟩,
  ⟨⟨.mv (.slot 10), some 55, none⟩, []⟩,
  ⟨⟨.lookup .i32 (.bool false) (.slot 54) (.slot 55) false, some 56, none⟩, []⟩]
def r36_11 : List XLine := [⟨⟨.load false 1 (.slot 2), some 57, none⟩, []⟩,
  ⟨⟨.mv (.slot 0), some 58, none⟩, []⟩,
  ⟨⟨.load false 1 (.slot 2), some 59, none⟩, []⟩,
  ⟨⟨.mv (.slot 0), some 60, none⟩, []⟩,
  ⟨⟨.lookup .i32 (.int .i64 (.ofNat 0)) (.slot 59) (.slot 60) false, some 61, none⟩, []⟩,
  ⟨⟨.load false 1 (.slot 1), some 62, none⟩, []⟩,
  ⟨⟨.mv (.slot 10), some 63, none⟩, []⟩,
  ⟨⟨.lookup .i32 (.int .i64 (.ofNat 0)) (.slot 62) (.slot 63) false, some 64, none⟩, []⟩,
  ⟨⟨.minmax true (.slot 61) (.slot 64), some 65, none⟩, []⟩,
  ⟨⟨.mapup .i32 (.slot 57) (.slot 58) (.slot 65), none, none⟩, []⟩]
def r36_12 : List XLine := [⟨⟨.bin .add 3 .num (.slot 34) (.const (.int .i64 (.ofNat 1))), some 66, none⟩, []⟩,
  ⟨⟨.mv (.slot 66), some 34, none⟩, []⟩]
def r36_13 : List XLine := [⟨⟨.load false 1 (.slot 2), some 67, none⟩, []⟩,
  ⟨⟨.mv (.slot 0), some 68, none⟩, []⟩,
  ⟨⟨.lookup .i32 (.int .i64 (.ofNat 0)) (.slot 67) (.slot 68) false, some 69, none⟩, []⟩,
  ⟨⟨.load false 1 (.slot 1), some 70, none⟩, []⟩,
  ⟨⟨.mv (.slot 0), some 71, none⟩, []⟩,
  ⟨⟨.lookup .i32 (.int .i64 (.ofNat 0)) (.slot 70) (.slot 71) false, some 72, none⟩, []⟩,
  ⟨⟨.bin .neq 3 .num (.slot 69) (.slot 72), some 73, none⟩, []⟩]
def r36_14 : List XLine := [⟨⟨.load false 1 (.slot 3), some 74, none⟩, []⟩,
  ⟨⟨.mv (.slot 0), some 75, none⟩, []⟩,
  ⟨⟨.call (.const (.func 37 [] [])) [(.slot 74), (.slot 75)], some 76, none⟩, []⟩,
  ⟨⟨.mv (.slot 76), some 11, none⟩, []⟩]
def r36_15 : List XLine := [⟨⟨.load false 1 (.slot 7), some 77, none⟩, []⟩,
  ⟨⟨.load false 1 (.slot 3), some 78, none⟩, []⟩,
  ⟨⟨.mv (.slot 11), some 79, none⟩, []⟩,
  ⟨⟨.slc 1 (.slot 78) (some (.slot 79)) none none, some 80, none⟩, []⟩,
  ⟨⟨.call (.const (.func 38 [] [])) [(.slot 80)], some 81, none⟩, [⟨.load false 1 (.slot 7), some 77, none⟩]⟩,
  ⟨⟨.bslice 1 [.nils] [(0, 1, (.slot 81))] 1, some 82, none⟩, [⟨.load false 1 (.slot 7), some 77, none⟩]⟩,
  ⟨⟨.append 1 24 (.slot 77) (.slot 82), some 83, none⟩, []⟩,
  ⟨⟨.store 1 (.slot 7) (.slot 83), none, none⟩, []⟩]
def r36_16 : List XLine := [⟨⟨.load false 1 (.slot 3), some 84, none⟩, []⟩,
  ⟨⟨.mv (.slot 11), some 85, none⟩, []⟩,
  ⟨⟨.slc 1 (.slot 84) (some (.slot 85)) none none, some 86, none⟩, []⟩,
  ⟨⟨.len .slice (.slot 86), some 87, none⟩, []⟩,
  ⟨⟨.mv (.const (.int .i64 (.ofNat 0))), some 88, none⟩, []⟩]
def r36_17 : List XLine := [⟨⟨.bin .lss 3 .num (.slot 88) (.slot 87), some 89, none⟩, []⟩]
def r36_18 : List XLine := [⟨⟨.iaddr 1 (.slot 86) (.slot 88), some 90, none⟩, []⟩,
  ⟨⟨.load false 1 (.slot 90), some 91, none⟩, []⟩,
  ⟨⟨.mv (.slot 91), some 13, none⟩, []⟩]
def r36_19 : List XLine := [⟨⟨.load false 1 (.slot 4), some 92, none⟩, []⟩,
  ⟨⟨.mv (.slot 13), some 93, none⟩, []⟩,
  ⟨⟨.mapup .i32 (.slot 92) (.slot 93) (.const (.bool false)), none, none⟩, []⟩]
def r36_20 : List XLine := [⟨⟨.bin .add 3 .num (.slot 88) (.const (.int .i64 (.ofNat 1))), some 94, none⟩, []⟩,
  ⟨⟨.mv (.slot 94), some 88, none⟩, []⟩]
def r36_21 : List XLine := [⟨⟨.load false 1 (.slot 3), some 95, none⟩, []⟩,
  ⟨⟨.mv (.slot 11), some 96, none⟩, []⟩,
  ⟨⟨.slc 1 (.slot 95) none (some (.slot 96)) none, some 97, none⟩, []⟩,
  ⟨⟨.store 1 (.slot 3) (.slot 97), none, none⟩, []⟩]
def xf36 : XFunc := ⟨(.seq (.region false r36_0)
  (.seq (.region false r36_1)
  (.seq (.region false r36_2)
  (.seq (.region false r36_3)
  (.seq (.seq (.region false r36_4)
  (.block 0 (.loop (.seq (.region false r36_5)
  (.seq (.cond (.slot 35)
  .skip
  (.exit 0))
  (.seq (.block 1 (.seq (.region false r36_6)
  (.seq (.region false r36_7)
  (.cond (.slot 41)
  (.seq (.region false r36_8)
  (.region false r36_9))
  (.seq (.region false r36_10)
  (.cond (.slot 56)
  (.region false r36_11)
  .skip))))))
  (.region false r36_12)))))))
  (.seq (.seq (.region false r36_13)
  (.cond (.slot 73)
  .ret
  .skip))
  (.seq (.region false r36_14)
  (.seq (.region true r36_15)
  (.seq (.seq (.region false r36_16)
  (.block 2 (.loop (.seq (.region false r36_17)
  (.seq (.cond (.slot 89)
  .skip
  (.exit 2))
  (.seq (.block 3 (.seq (.region false r36_18)
  (.region false r36_19)))
  (.region false r36_20)))))))
  (.region false r36_21)))))))))),
  []⟩
theorem xf36_ok : compFunc Tryz.prog Tryz.f36 = some xf36 := by kernel_rfl
end Go.Proofs.YtcpkfdabkpeomaaGreat

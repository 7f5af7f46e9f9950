/- The functions of the program in X's code, printed by a program of ours; each is what the program's own is turned to. -/
import Derived.Test.YtaljkapnfkbdbaaProg
import Derived.Test.YtaljkapnfkbdbaaW0
import Derived.KernelRfl
namespace Go.Proofs.Ytaljkapnfkbdbaa
open Go.Xr
/- math/bits.Len -/
def r44_0 : List XLine := [⟨⟨.mv (.const (.int .i64 (.ofNat 0))), some 2, none⟩, []⟩]
def r44_1 : List XLine := [⟨⟨.mv (.slot 0), some 3, none⟩, []⟩,
  ⟨⟨.conv .u32 (.slot 3), some 4, none⟩, []⟩,
  ⟨⟨.call (.const (.func 69 [] [])) [(.slot 4)], some 5, none⟩, []⟩,
  ⟨⟨.mv (.slot 5), some 2, none⟩, []⟩]
def r44_2 : List XLine := [⟨⟨.mv (.slot 0), some 6, none⟩, []⟩,
  ⟨⟨.call (.const (.func 70 [] [])) [(.slot 6)], some 7, none⟩, []⟩,
  ⟨⟨.mv (.slot 7), some 2, none⟩, []⟩]
def xf44 : XFunc := ⟨(.seq (.region false r44_0)
  (.seq (.cond (.const (.bool false))
  (.seq (.region false r44_1)
  .ret)
  .skip)
  (.seq (.region false r44_2)
  .ret))),
  [.tmp 2]⟩
theorem xf44_ok : compFunc Try.prog Try.f44 = some xf44 := by kernel_rfl
/- cmp.Or[int] -/
def r45_0 : List XLine := [⟨⟨.mv (.const (.int .i64 (.ofNat 0))), some 2, none⟩, []⟩]
def r45_1 : List XLine := [⟨⟨.mv (.const (.int .i64 (.ofNat 0))), some 3, none⟩, []⟩]
def r45_2 : List XLine := [⟨⟨.mv (.slot 0), some 6, none⟩, []⟩,
  ⟨⟨.len .slice (.slot 6), some 7, none⟩, []⟩,
  ⟨⟨.mv (.const (.int .i64 (.ofNat 0))), some 8, none⟩, []⟩]
def r45_3 : List XLine := [⟨⟨.bin .lss 3 .num (.slot 8) (.slot 7), some 9, none⟩, []⟩]
def r45_4 : List XLine := [⟨⟨.iaddr 1 (.slot 6) (.slot 8), some 10, none⟩, []⟩,
  ⟨⟨.load false 1 (.slot 10), some 11, none⟩, []⟩,
  ⟨⟨.mv (.slot 11), some 5, none⟩, []⟩]
def r45_5 : List XLine := [⟨⟨.mv (.slot 5), some 12, none⟩, []⟩,
  ⟨⟨.mv (.slot 3), some 13, none⟩, []⟩,
  ⟨⟨.bin .neq 3 .num (.slot 12) (.slot 13), some 14, none⟩, []⟩]
def r45_6 : List XLine := [⟨⟨.mv (.slot 5), some 15, none⟩, []⟩,
  ⟨⟨.mv (.slot 15), some 2, none⟩, []⟩]
def r45_7 : List XLine := [⟨⟨.bin .add 3 .num (.slot 8) (.const (.int .i64 (.ofNat 1))), some 16, none⟩, []⟩,
  ⟨⟨.mv (.slot 16), some 8, none⟩, []⟩]
def r45_8 : List XLine := [⟨⟨.mv (.slot 3), some 17, none⟩, []⟩,
  ⟨⟨.mv (.slot 17), some 2, none⟩, []⟩]
def xf45 : XFunc := ⟨(.seq (.region false r45_0)
  (.seq (.region false r45_1)
  (.seq (.seq (.region false r45_2)
  (.block 0 (.loop (.seq (.region false r45_3)
  (.seq (.cond (.slot 9)
  .skip
  (.exit 0))
  (.seq (.block 1 (.seq (.region false r45_4)
  (.seq (.region false r45_5)
  (.cond (.slot 14)
  (.seq (.region false r45_6)
  .ret)
  .skip))))
  (.region false r45_7)))))))
  (.seq (.region false r45_8)
  .ret)))),
  [.tmp 2]⟩
theorem xf45_ok : compFunc Try.prog Try.f45 = some xf45 := by kernel_rfl
/- cmp.Compare[int] -/
def r46_0 : List XLine := [⟨⟨.mv (.const (.int .i64 (.ofNat 0))), some 4, none⟩, []⟩]
def r46_1 : List XLine := [⟨⟨.mv (.slot 0), some 7, none⟩, []⟩,
  ⟨⟨.call (.const (.func 71 [] [])) [(.slot 7)], some 8, none⟩, []⟩,
  ⟨⟨.mv (.slot 8), some 5, none⟩, []⟩]
def r46_2 : List XLine := [⟨⟨.mv (.slot 1), some 9, none⟩, []⟩,
  ⟨⟨.call (.const (.func 71 [] [])) [(.slot 9)], some 10, none⟩, []⟩,
  ⟨⟨.mv (.slot 10), some 6, none⟩, []⟩]
def r46_3 : List XLine := [⟨⟨.mv (.slot 5), some 11, none⟩, []⟩]
def r46_4 : List XLine := [⟨⟨.mv (.slot 6), some 12, none⟩, []⟩]
def r46_5 : List XLine := [⟨⟨.mv (.const (.int .i64 (.ofNat 0))), some 4, none⟩, []⟩]
def r46_6 : List XLine := [⟨⟨.mv (.const (.int .i64 (.negSucc 0))), some 4, none⟩, []⟩]
def r46_7 : List XLine := [⟨⟨.mv (.slot 6), some 13, none⟩, []⟩]
def r46_8 : List XLine := [⟨⟨.mv (.const (.int .i64 (.ofNat 1))), some 4, none⟩, []⟩]
def r46_9 : List XLine := [⟨⟨.mv (.slot 0), some 14, none⟩, []⟩,
  ⟨⟨.mv (.slot 1), some 15, none⟩, []⟩,
  ⟨⟨.bin .lss 3 .num (.slot 14) (.slot 15), some 16, none⟩, []⟩]
def r46_10 : List XLine := [⟨⟨.mv (.const (.int .i64 (.negSucc 0))), some 4, none⟩, []⟩]
def r46_11 : List XLine := [⟨⟨.mv (.slot 0), some 17, none⟩, []⟩,
  ⟨⟨.mv (.slot 1), some 18, none⟩, []⟩,
  ⟨⟨.bin .gtr 3 .num (.slot 17) (.slot 18), some 19, none⟩, []⟩]
def r46_12 : List XLine := [⟨⟨.mv (.const (.int .i64 (.ofNat 1))), some 4, none⟩, []⟩]
def r46_13 : List XLine := [⟨⟨.mv (.const (.int .i64 (.ofNat 0))), some 4, none⟩, []⟩]
def xf46 : XFunc := ⟨(.seq (.region false r46_0)
  (.seq (.region false r46_1)
  (.seq (.region false r46_2)
  (.seq (.seq (.region false r46_3)
  (.cond (.slot 11)
  (.seq (.seq (.region false r46_4)
  (.cond (.slot 12)
  (.seq (.region false r46_5)
  .ret)
  .skip))
  (.seq (.region false r46_6)
  .ret))
  .skip))
  (.seq (.seq (.region false r46_7)
  (.cond (.slot 13)
  (.seq (.region false r46_8)
  .ret)
  .skip))
  (.seq (.seq (.region false r46_9)
  (.cond (.slot 16)
  (.seq (.region false r46_10)
  .ret)
  .skip))
  (.seq (.seq (.region false r46_11)
  (.cond (.slot 19)
  (.seq (.region false r46_12)
  .ret)
  .skip))
  (.seq (.region false r46_13)
  .ret)))))))),
  [.tmp 4]⟩
theorem xf46_ok : compFunc Try.prog Try.f46 = some xf46 := by kernel_rfl
/- cmp.Compare[threshing/api.Lit] -/
def r47_0 : List XLine := [⟨⟨.mv (.const (.int .i64 (.ofNat 0))), some 4, none⟩, []⟩]
def r47_1 : List XLine := [⟨⟨.mv (.slot 0), some 7, none⟩, []⟩,
  ⟨⟨.call (.const (.func 72 [] [])) [(.slot 7)], some 8, none⟩, []⟩,
  ⟨⟨.mv (.slot 8), some 5, none⟩, []⟩]
def r47_2 : List XLine := [⟨⟨.mv (.slot 1), some 9, none⟩, []⟩,
  ⟨⟨.call (.const (.func 72 [] [])) [(.slot 9)], some 10, none⟩, []⟩,
  ⟨⟨.mv (.slot 10), some 6, none⟩, []⟩]
def r47_3 : List XLine := [⟨⟨.mv (.slot 5), some 11, none⟩, []⟩]
def r47_4 : List XLine := [⟨⟨.mv (.slot 6), some 12, none⟩, []⟩]
def r47_5 : List XLine := [⟨⟨.mv (.const (.int .i64 (.ofNat 0))), some 4, none⟩, []⟩]
def r47_6 : List XLine := [⟨⟨.mv (.const (.int .i64 (.negSucc 0))), some 4, none⟩, []⟩]
def r47_7 : List XLine := [⟨⟨.mv (.slot 6), some 13, none⟩, []⟩]
def r47_8 : List XLine := [⟨⟨.mv (.const (.int .i64 (.ofNat 1))), some 4, none⟩, []⟩]
def r47_9 : List XLine := [⟨⟨.mv (.slot 0), some 14, none⟩, []⟩,
  ⟨⟨.mv (.slot 1), some 15, none⟩, []⟩,
  ⟨⟨.bin .lss 24 .num (.slot 14) (.slot 15), some 16, none⟩, []⟩]
def r47_10 : List XLine := [⟨⟨.mv (.const (.int .i64 (.negSucc 0))), some 4, none⟩, []⟩]
def r47_11 : List XLine := [⟨⟨.mv (.slot 0), some 17, none⟩, []⟩,
  ⟨⟨.mv (.slot 1), some 18, none⟩, []⟩,
  ⟨⟨.bin .gtr 24 .num (.slot 17) (.slot 18), some 19, none⟩, []⟩]
def r47_12 : List XLine := [⟨⟨.mv (.const (.int .i64 (.ofNat 1))), some 4, none⟩, []⟩]
def r47_13 : List XLine := [⟨⟨.mv (.const (.int .i64 (.ofNat 0))), some 4, none⟩, []⟩]
def xf47 : XFunc := ⟨(.seq (.region false r47_0)
  (.seq (.region false r47_1)
  (.seq (.region false r47_2)
  (.seq (.seq (.region false r47_3)
  (.cond (.slot 11)
  (.seq (.seq (.region false r47_4)
  (.cond (.slot 12)
  (.seq (.region false r47_5)
  .ret)
  .skip))
  (.seq (.region false r47_6)
  .ret))
  .skip))
  (.seq (.seq (.region false r47_7)
  (.cond (.slot 13)
  (.seq (.region false r47_8)
  .ret)
  .skip))
  (.seq (.seq (.region false r47_9)
  (.cond (.slot 16)
  (.seq (.region false r47_10)
  .ret)
  .skip))
  (.seq (.seq (.region false r47_11)
  (.cond (.slot 19)
  (.seq (.region false r47_12)
  .ret)
  .skip))
  (.seq (.region false r47_13)
  .ret)))))))),
  [.tmp 4]⟩
theorem xf47_ok : compFunc Try.prog Try.f47 = some xf47 := by kernel_rfl
/- (threshing/blocked.form).harmless -/
def r48_0 : List XLine := [⟨⟨.box (.slot 0), some 3, none⟩, []⟩,
  ⟨⟨.box (.slot 2), some 5, none⟩, []⟩,
  ⟨⟨.mv (.const (.bool false)), some 6, none⟩, []⟩]
def r48_1 : List XLine := [⟨⟨.mv (.slot 1), some 7, none⟩, []⟩,
  ⟨⟨.mkfunc 73 [] [(.slot 5), (.slot 3)], some 8, none⟩, []⟩,
  ⟨⟨.call (.const (.func 39 [] [])) [(.slot 7), (.slot 8)], some 9, none⟩, []⟩,
  ⟨⟨.mv (.slot 9), some 6, none⟩, []⟩]
def xf48 : XFunc := ⟨(.seq (.region false r48_0)
  (.seq (.region false r48_1)
  .ret)),
  [.tmp 6]⟩
theorem xf48_ok : compFunc Try.prog Try.f48 = some xf48 := by kernel_rfl
/- (*threshing/base.Base).Occurs -/
def r49_0 : List XLine := [⟨⟨.mv (.const .nils), some 4, none⟩, []⟩]
def r49_1 : List XLine := [⟨⟨.mv (.slot 0), some 5, none⟩, []⟩,
  ⟨⟨.bin .eql 22 .ptr (.slot 5) (.const .nilp), some 6, none⟩, []⟩]
def r49_2 : List XLine := [⟨⟨.mv (.const .nils), some 4, none⟩, []⟩]
def r49_3 : List XLine := [⟨⟨.mv (.slot 0), some 7, none⟩, []⟩,
  ⟨⟨.nilCheck (.slot 7), some 8, none⟩, []⟩,
  ⟨⟨.faddr 2 (.slot 8), some 9, none⟩, []⟩,
  ⟨⟨.load false 1 (.slot 9), some 10, none⟩, []⟩,
  ⟨⟨.mv (.slot 1), some 11, none⟩, []⟩,
  ⟨⟨.lookup .i32 .nilm (.slot 10) (.slot 11) false, some 12, none⟩, []⟩,
  ⟨⟨.call (.const (.func 74 [] [])) [(.slot 12)], some 13, none⟩, []⟩,
  ⟨⟨.call (.const (.func 17 [] [])) [(.slot 13)], some 14, none⟩, []⟩,
  ⟨⟨.mv (.slot 14), some 4, none⟩, []⟩]
def xf49 : XFunc := ⟨(.seq (.region false r49_0)
  (.seq (.seq (.region false r49_1)
  (.cond (.slot 6)
  (.seq (.region false r49_2)
  .ret)
  .skip))
  (.seq (.region false r49_3)
  .ret))),
  [.tmp 4]⟩
theorem xf49_ok : compFunc Try.prog Try.f49 = some xf49 := by kernel_rfl
/- (*threshing/base.Base).Get -/
def r50_0 : List XLine := [⟨⟨.alloc [(.int .i64 (.ofNat 0)), .nils, (.bool false)], some 4, none⟩, []⟩,
  ⟨⟨.mv (.const (.bool false)), some 5, none⟩, []⟩]
def r50_1 : List XLine := [⟨⟨.mv (.slot 0), some 8, none⟩, []⟩,
  ⟨⟨.bin .eql 22 .ptr (.slot 8) (.const .nilp), some 9, none⟩, []⟩]
def r50_2 : List XLine := [⟨⟨.build [(.int .i64 (.ofNat 0)), .nils, (.bool false)] [], some 10, none⟩, []⟩,
  ⟨⟨.store 3 (.slot 4) (.slot 10), none, none⟩, []⟩,
  ⟨⟨.mv (.const (.bool false)), some 5, none⟩, []⟩]
def r50_3 : List XLine := [⟨⟨.mv (.slot 0), some 12, none⟩, []⟩,
  ⟨⟨.nilCheck (.slot 12), some 13, none⟩, []⟩,
  ⟨⟨.faddr 1 (.slot 13), some 14, none⟩, []⟩,
  ⟨⟨.load false 1 (.slot 14), some 15, none⟩, []⟩,
  ⟨⟨.mv (.slot 1), some 16, none⟩, []⟩,
  ⟨⟨.lookup .i64 (.agg [(.int .i64 (.ofNat 0)), .nils, (.bool false)]) (.slot 15) (.slot 16) true, some 17, none⟩, []⟩,
  ⟨⟨.mv (.slot 17), some 11, none⟩, []⟩,
  ⟨⟨.extract (.slot 11) 0, some 18, none⟩, []⟩,
  ⟨⟨.extract (.slot 11) 1, some 19, none⟩, []⟩,
  ⟨⟨.alloc [(.int .i64 (.ofNat 0)), .nils, (.bool false)], some 6, none⟩, []⟩,
  ⟨⟨.store 3 (.slot 6) (.slot 18), none, none⟩, []⟩,
  ⟨⟨.mv (.slot 19), some 7, none⟩, []⟩]
def r50_4 : List XLine := [⟨⟨.load true 3 (.slot 6), some 20, none⟩, []⟩,
  ⟨⟨.call (.const (.func 19 [] [])) [(.slot 20)], some 21, none⟩, []⟩,
  ⟨⟨.mv (.slot 7), some 22, none⟩, []⟩,
  ⟨⟨.store 3 (.slot 4) (.slot 21), none, none⟩, []⟩,
  ⟨⟨.mv (.slot 22), some 5, none⟩, []⟩]
def xf50 : XFunc := ⟨(.seq (.region false r50_0)
  (.seq (.seq (.region false r50_1)
  (.cond (.slot 9)
  (.seq (.region false r50_2)
  .ret)
  .skip))
  (.seq (.region false r50_3)
  (.seq (.region false r50_4)
  .ret)))),
  [.cell 4 true 3, .tmp 5]⟩
theorem xf50_ok : compFunc Try.prog Try.f50 = some xf50 := by kernel_rfl
/- slices.Contains[threshing/api.Clause,threshing/api.Lit] -/
def r51_0 : List XLine := [⟨⟨.mv (.const (.bool false)), some 4, none⟩, []⟩]
def r51_1 : List XLine := [⟨⟨.mv (.slot 0), some 5, none⟩, []⟩,
  ⟨⟨.mv (.slot 1), some 6, none⟩, []⟩,
  ⟨⟨.call (.const (.func 75 [] [])) [(.slot 5), (.slot 6)], some 7, none⟩, []⟩,
  ⟨⟨.bin .geq 3 .num (.slot 7) (.const (.int .i64 (.ofNat 0))), some 8, none⟩, []⟩,
  ⟨⟨.mv (.slot 8), some 4, none⟩, []⟩]
def xf51 : XFunc := ⟨(.seq (.region false r51_0)
  (.seq (.region false r51_1)
  .ret)),
  [.tmp 4]⟩
theorem xf51_ok : compFunc Try.prog Try.f51 = some xf51 := by kernel_rfl
/- slices.Grow[threshing/api.Clause,threshing/api.Lit] -/
def r52_0 : List XLine := [⟨⟨.mv (.const .nils), some 4, none⟩, []⟩]
def r52_1 : List XLine := [⟨⟨.mv (.slot 1), some 5, none⟩, []⟩,
  ⟨⟨.bin .lss 3 .num (.slot 5) (.const (.int .i64 (.ofNat 0))), some 6, none⟩, []⟩]
def r52_2 : List XLine := [⟨⟨.mkif 9 (.const (.str ⟨⟨[99, 97, 110, 110, 111, 116, 32, 98, 101, 32, 110, 101, 103, 97, 116, 105, 118, 101]⟩⟩)), some 7, none⟩, []⟩,
  ⟨⟨.bad, none, none⟩, []⟩]
def r52_3 : List XLine := [⟨⟨.mv (.slot 1), some 8, none⟩, []⟩,
  ⟨⟨.mv (.slot 0), some 9, none⟩, []⟩,
  ⟨⟨.cap (.slot 9), some 10, none⟩, []⟩,
  ⟨⟨.mv (.slot 0), some 11, none⟩, []⟩,
  ⟨⟨.len .slice (.slot 11), some 12, none⟩, []⟩,
  ⟨⟨.bin .sub 3 .num (.slot 10) (.slot 12), some 13, none⟩, []⟩,
  ⟨⟨.bin .sub 3 .num (.slot 8) (.slot 13), some 14, none⟩, []⟩,
  ⟨⟨.mv (.slot 14), some 1, none⟩, []⟩]
def r52_4 : List XLine := [⟨⟨.mv (.slot 1), some 15, none⟩, []⟩,
  ⟨⟨.bin .gtr 3 .num (.slot 15) (.const (.int .i64 (.ofNat 0))), some 16, none⟩, []⟩]
def r52_5 : List XLine := [⟨⟨.mv (.slot 0), some 17, none⟩, []⟩,
  ⟨⟨.mv (.slot 0), some 18, none⟩, []⟩,
  ⟨⟨.cap (.slot 18), some 19, none⟩, []⟩,
  ⟨⟨.slc 1 (.slot 17) none (some (.slot 19)) none, some 20, none⟩, []⟩,
  ⟨⟨.mv (.slot 1), some 21, none⟩, []⟩,
  ⟨⟨.appendZ 1 4 [(.int .i32 (.ofNat 0))] (.slot 20) (.slot 21), some 22, none⟩, []⟩,
  ⟨⟨.mv (.slot 0), some 23, none⟩, []⟩,
  ⟨⟨.len .slice (.slot 23), some 24, none⟩, []⟩,
  ⟨⟨.slc 1 (.slot 22) none (some (.slot 24)) none, some 25, none⟩, []⟩,
  ⟨⟨.mv (.slot 25), some 0, none⟩, []⟩]
def r52_6 : List XLine := [⟨⟨.mv (.slot 0), some 26, none⟩, []⟩,
  ⟨⟨.mv (.slot 26), some 4, none⟩, []⟩]
def xf52 : XFunc := ⟨(.seq (.region false r52_0)
  (.seq (.seq (.region false r52_1)
  (.cond (.slot 6)
  (.region false r52_2)
  .skip))
  (.seq (.seq (.region false r52_3)
  (.seq (.region false r52_4)
  (.cond (.slot 16)
  (.region false r52_5)
  .skip)))
  (.seq (.region false r52_6)
  .ret)))),
  [.tmp 4]⟩
theorem xf52_ok : compFunc Try.prog Try.f52 = some xf52 := by kernel_rfl
/- threshing/base.both -/
def r53_0 : List XLine := [⟨⟨.box (.slot 0), some 1, none⟩, []⟩,
  ⟨⟨.mv (.const (.bool false)), some 2, none⟩, []⟩]
def r53_1 : List XLine := [⟨⟨.load false 1 (.slot 1), some 3, none⟩, []⟩,
  ⟨⟨.mkfunc 76 [] [(.slot 1)], some 4, none⟩, []⟩,
  ⟨⟨.call (.const (.func 39 [] [])) [(.slot 3), (.slot 4)], some 5, none⟩, []⟩,
  ⟨⟨.mv (.slot 5), some 2, none⟩, []⟩]
def xf53 : XFunc := ⟨(.seq (.region false r53_0)
  (.seq (.region false r53_1)
  .ret)),
  [.tmp 2]⟩
theorem xf53_ok : compFunc Try.prog Try.f53 = some xf53 := by kernel_rfl
/- (*threshing/base.Base).remove -/
def r54_0 : List XLine := [⟨⟨.box (.slot 1), some 3, none⟩, []⟩,
  ⟨⟨.mv (.const (.int .i64 (.ofNat 0))), some 4, none⟩, []⟩]
def r54_1 : List XLine := [⟨⟨.mv (.slot 0), some 7, none⟩, []⟩,
  ⟨⟨.call (.const (.func 20 [] [])) [(.slot 7)], some 8, none⟩, []⟩]
def r54_2 : List XLine := [⟨⟨.mv (.const (.int .i64 (.ofNat 3))), some 4, none⟩, []⟩]
def r54_3 : List XLine := [⟨⟨.mv (.slot 0), some 9, none⟩, []⟩,
  ⟨⟨.nilCheck (.slot 9), some 10, none⟩, []⟩,
  ⟨⟨.faddr 1 (.slot 10), some 11, none⟩, []⟩,
  ⟨⟨.load false 1 (.slot 11), some 12, none⟩, []⟩,
  ⟨⟨.faddr 0 (.slot 3), some 13, none⟩, []⟩,
  ⟨⟨.load false 1 (.slot 13), some 14, none⟩, []⟩,
  ⟨⟨.delete .i64 (.slot 12) (.slot 14), none, none⟩, []⟩]
def r54_4 : List XLine := [⟨⟨.mv (.slot 0), some 15, none⟩, []⟩,
  ⟨⟨.nilCheck (.slot 15), some 16, none⟩, []⟩,
  ⟨⟨.faddr 3 (.slot 16), some 17, none⟩, []⟩,
  ⟨⟨.load false 1 (.slot 17), some 18, none⟩, []⟩,
  ⟨⟨.faddr 0 (.slot 3), some 19, none⟩, []⟩,
  ⟨⟨.load false 1 (.slot 19), some 20, none⟩, []⟩,
  ⟨⟨.delete .i64 (.slot 18) (.slot 20), none, none⟩, []⟩]
def r54_5 : List XLine := [⟨⟨.faddr 1 (.slot 3), some 21, none⟩, []⟩,
  ⟨⟨.load false 1 (.slot 21), some 22, none⟩, []⟩,
  ⟨⟨.len .slice (.slot 22), some 23, none⟩, []⟩,
  ⟨⟨.mv (.const (.int .i64 (.ofNat 0))), some 24, none⟩, []⟩]
def r54_6 : List XLine := [⟨⟨.bin .lss 3 .num (.slot 24) (.slot 23), some 25, none⟩, []⟩]
def r54_7 : List XLine := [⟨⟨.iaddr 1 (.slot 22) (.slot 24), some 26, none⟩, []⟩,
  ⟨⟨.load false 1 (.slot 26), some 27, none⟩, []⟩,
  ⟨⟨.mv (.slot 27), some 6, none⟩, []⟩]
def r54_8 : List XLine := [⟨⟨.mv (.slot 0), some 28, none⟩, []⟩,
  ⟨⟨.nilCheck (.slot 28), some 29, none⟩, []⟩,
  ⟨⟨.faddr 2 (.slot 29), some 30, none⟩, []⟩,
  ⟨⟨.load false 1 (.slot 30), some 31, none⟩, []⟩,
  ⟨⟨.mv (.slot 6), some 32, none⟩, []⟩,
  ⟨⟨.lookup .i32 .nilm (.slot 31) (.slot 32) false, some 33, none⟩, []⟩,
  ⟨⟨.faddr 0 (.slot 3), some 34, none⟩, []⟩,
  ⟨⟨.load false 1 (.slot 34), some 35, none⟩, []⟩,
  ⟨⟨.delete .i64 (.slot 33) (.slot 35), none, none⟩, []⟩]
def r54_9 : List XLine := [⟨⟨.bin .add 3 .num (.slot 24) (.const (.int .i64 (.ofNat 1))), some 36, none⟩, []⟩,
  ⟨⟨.mv (.slot 36), some 24, none⟩, []⟩]
def r54_10 : List XLine := [⟨⟨.mv (.slot 0), some 37, none⟩, []⟩,
  ⟨⟨.mv (.slot 0), some 38, none⟩, []⟩,
  ⟨⟨.nilCheck (.slot 38), some 39, none⟩, []⟩,
  ⟨⟨.faddr 5 (.slot 39), some 40, none⟩, []⟩,
  ⟨⟨.load false 1 (.slot 40), some 41, none⟩, []⟩,
  ⟨⟨.mv (.slot 0), some 42, none⟩, []⟩,
  ⟨⟨.nilCheck (.slot 42), some 43, none⟩, []⟩,
  ⟨⟨.faddr 4 (.slot 43), some 44, none⟩, []⟩,
  ⟨⟨.load false 1 (.slot 44), some 45, none⟩, []⟩,
  ⟨⟨.faddr 0 (.slot 3), some 46, none⟩, []⟩,
  ⟨⟨.load false 1 (.slot 46), some 47, none⟩, []⟩,
  ⟨⟨.bslice 1 [(.int .i64 (.ofNat 0))] [(0, 1, (.slot 47))] 1, some 48, none⟩, [⟨.load false 1 (.slot 40), some 41, none⟩, ⟨.load false 1 (.slot 44), some 45, none⟩]⟩,
  ⟨⟨.build [(.int .u8 (.ofNat 0)), (.int .i64 (.ofNat 0)), .nils, .nils] [(0, 1, (.const (.int .u8 (.ofNat 2)))), (1, 1, (.slot 45)), (3, 1, (.slot 48))], some 49, none⟩, []⟩,
  ⟨⟨.bslice 4 [(.int .u8 (.ofNat 0)), (.int .i64 (.ofNat 0)), .nils, .nils] [(0, 4, (.slot 49))] 1, some 50, none⟩, [⟨.load false 1 (.slot 40), some 41, none⟩]⟩,
  ⟨⟨.append 4 64 (.slot 41) (.slot 50), some 51, none⟩, []⟩,
  ⟨⟨.nilCheck (.slot 37), some 52, none⟩, []⟩,
  ⟨⟨.faddr 5 (.slot 52), some 53, none⟩, []⟩,
  ⟨⟨.store 1 (.slot 53) (.slot 51), none, none⟩, []⟩]
def r54_11 : List XLine := [⟨⟨.mv (.const (.int .i64 (.ofNat 0))), some 4, none⟩, []⟩]
def xf54 : XFunc := ⟨(.seq (.region false r54_0)
  (.seq (.seq (.region false r54_1)
  (.cond (.slot 8)
  (.seq (.region false r54_2)
  .ret)
  .skip))
  (.seq (.region true r54_3)
  (.seq (.region true r54_4)
  (.seq (.seq (.region false r54_5)
  (.block 0 (.loop (.seq (.region false r54_6)
  (.seq (.cond (.slot 25)
  .skip
  (.exit 0))
  (.seq (.block 1 (.seq (.region false r54_7)
  (.region true r54_8)))
  (.region false r54_9)))))))
  (.seq (.region true r54_10)
  (.seq (.region false r54_11)
  .ret))))))),
  [.tmp 4]⟩
theorem xf54_ok : compFunc Try.prog Try.f54 = some xf54 := by kernel_rfl
/- threshing/cnf.Subsumes -/
def r55_0 : List XLine := [⟨⟨.box (.slot 1), some 3, none⟩, []⟩,
  ⟨⟨.mv (.const (.bool false)), some 4, none⟩, []⟩]
def r55_1 : List XLine := [⟨⟨.mv (.slot 0), some 5, none⟩, []⟩,
  ⟨⟨.mkfunc 77 [] [(.slot 3)], some 6, none⟩, []⟩,
  ⟨⟨.call (.const (.func 39 [] [])) [(.slot 5), (.slot 6)], some 7, none⟩, []⟩,
  ⟨⟨.un .not (.slot 7), some 8, none⟩, []⟩,
  ⟨⟨.mv (.slot 8), some 4, none⟩, []⟩]
def xf55 : XFunc := ⟨(.seq (.region false r55_0)
  (.seq (.region false r55_1)
  .ret)),
  [.tmp 4]⟩
theorem xf55_ok : compFunc Try.prog Try.f55 = some xf55 := by kernel_rfl
/- (*threshing/base.Base).keep -/
def r56_0 : List XLine := [⟨⟨.box (.slot 1), some 3, none⟩, []⟩]
def r56_1 : List XLine := [⟨⟨.faddr 2 (.slot 3), some 4, none⟩, []⟩,
  ⟨⟨.store 1 (.slot 4) (.const (.bool false)), none, none⟩, []⟩]
def r56_2 : List XLine := [⟨⟨.mv (.slot 0), some 5, none⟩, []⟩,
  ⟨⟨.nilCheck (.slot 5), some 6, none⟩, []⟩,
  ⟨⟨.faddr 1 (.slot 6), some 7, none⟩, []⟩,
  ⟨⟨.load false 1 (.slot 7), some 8, none⟩, []⟩,
  ⟨⟨.faddr 0 (.slot 3), some 9, none⟩, []⟩,
  ⟨⟨.load false 1 (.slot 9), some 10, none⟩, []⟩,
  ⟨⟨.load true 3 (.slot 3), some 11, none⟩, []⟩,
  ⟨⟨.mapup .i64 (.slot 8) (.slot 10) (.slot 11), none, none⟩, []⟩]
def xf56 : XFunc := ⟨(.seq (.region false r56_0)
  (.seq (.region false r56_1)
  (.region true r56_2))),
  []⟩
theorem xf56_ok : compFunc Try.prog Try.f56 = some xf56 := by kernel_rfl
/- slices.AppendSeq[[]int64,int64] -/
def r57_0 : List XLine := [⟨⟨.box (.slot 0), some 2, none⟩, []⟩,
  ⟨⟨.mv (.const .nils), some 4, none⟩, []⟩]
def r57_1 : List XLine := [⟨⟨.mv (.slot 1), some 6, none⟩, []⟩]
def r57_2 : List XLine := [⟨⟨.mv (.slot 7), some 5, none⟩, []⟩]
def r57_3 : List XLine := [⟨⟨.load false 1 (.slot 2), some 8, none⟩, []⟩,
  ⟨⟨.mv (.slot 5), some 9, none⟩, []⟩,
  ⟨⟨.bslice 1 [(.int .i64 (.ofNat 0))] [(0, 1, (.slot 9))] 1, some 10, none⟩, []⟩,
  ⟨⟨.append 1 8 (.slot 8) (.slot 10), some 11, none⟩, []⟩,
  ⟨⟨.store 1 (.slot 2) (.slot 11), none, none⟩, []⟩]
def r57_4 : List XLine := [⟨⟨.load false 1 (.slot 2), some 12, none⟩, []⟩,
  ⟨⟨.mv (.slot 12), some 4, none⟩, []⟩]
def xf57 : XFunc := ⟨(.seq (.region false r57_0)
  (.seq (.seq (.region false r57_1)
  (.block 0 (.rangeFunc (.slot 6) [7] (.region false r57_2)
  (.block 1 (.region false r57_3)))))
  (.seq (.region false r57_4)
  .ret))),
  [.tmp 4]⟩
theorem xf57_ok : compFunc Try.prog Try.f57 = some xf57 := by kernel_rfl
/- slices.pdqsortOrdered[int64] -/
def r58_0 : List XLine := [⟨⟨.mv (.const (.bool true)), some 8, none⟩, []⟩]
def r58_1 : List XLine := [⟨⟨.mv (.const (.bool true)), some 9, none⟩, []⟩]
def r58_2 : List XLine := [⟨⟨.mv (.slot 2), some 19, none⟩, []⟩,
  ⟨⟨.mv (.slot 1), some 20, none⟩, []⟩,
  ⟨⟨.bin .sub 3 .num (.slot 19) (.slot 20), some 21, none⟩, []⟩,
  ⟨⟨.mv (.slot 21), some 10, none⟩, []⟩]
def r58_3 : List XLine := [⟨⟨.mv (.slot 10), some 22, none⟩, []⟩,
  ⟨⟨.bin .leq 3 .num (.slot 22) (.const (.int .i64 (.ofNat 12))), some 23, none⟩, []⟩]
def r58_4 : List XLine := [⟨⟨.mv (.slot 0), some 24, none⟩, []⟩,
  ⟨⟨.mv (.slot 1), some 25, none⟩, []⟩,
  ⟨⟨.mv (.slot 2), some 26, none⟩, []⟩,
  ⟨⟨.call (.const (.func 78 [] [])) [(.slot 24), (.slot 25), (.slot 26)], some 27, none⟩, []⟩]
def r58_5 : List XLine := [⟨⟨.mv (.slot 3), some 28, none⟩, []⟩,
  ⟨⟨.bin .eql 3 .num (.slot 28) (.const (.int .i64 (.ofNat 0))), some 29, none⟩, []⟩]
def r58_6 : List XLine := [⟨⟨.mv (.slot 0), some 30, none⟩, []⟩,
  ⟨⟨.mv (.slot 1), some 31, none⟩, []⟩,
  ⟨⟨.mv (.slot 2), some 32, none⟩, []⟩,
  ⟨⟨.call (.const (.func 79 [] [])) [(.slot 30), (.slot 31), (.slot 32)], some 33, none⟩, []⟩]
def r58_7 : List XLine := [⟨⟨.mv (.slot 8), some 34, none⟩, []⟩,
  ⟨⟨.un .not (.slot 34), some 35, none⟩, []⟩]
def r58_8 : List XLine := [⟨⟨.mv (.slot 0), some 36, none⟩, []⟩,
  ⟨⟨.mv (.slot 1), some 37, none⟩, []⟩,
  ⟨⟨.mv (.slot 2), some 38, none⟩, []⟩,
  ⟨⟨.call (.const (.func 80 [] [])) [(.slot 36), (.slot 37), (.slot 38)], some 39, none⟩, []⟩]
def r58_9 : List XLine := [⟨⟨.mv (.slot 3), some 40, none⟩, []⟩,
  ⟨⟨.bin .sub 3 .num (.slot 40) (.const (.int .i64 (.ofNat 1))), some 41, none⟩, []⟩,
  ⟨⟨.mv (.slot 41), some 3, none⟩, []⟩]
def r58_10 : List XLine := [⟨⟨.mv (.slot 0), some 43, none⟩, []⟩,
  ⟨⟨.mv (.slot 1), some 44, none⟩, []⟩,
  ⟨⟨.mv (.slot 2), some 45, none⟩, []⟩,
  ⟨⟨.call (.const (.func 81 [] [])) [(.slot 43), (.slot 44), (.slot 45)], some 46, none⟩, []⟩,
  ⟨⟨.mv (.slot 46), some 42, none⟩, []⟩,
  ⟨⟨.extract (.slot 42) 0, some 47, none⟩, []⟩,
  ⟨⟨.extract (.slot 42) 1, some 48, none⟩, []⟩,
  ⟨⟨.mv (.slot 47), some 11, none⟩, []⟩,
  ⟨⟨.mv (.slot 48), some 12, none⟩, []⟩]
def r58_11 : List XLine := [⟨⟨.mv (.slot 12), some 49, none⟩, []⟩,
  ⟨⟨.bin .eql 113 .num (.slot 49) (.const (.int .i64 (.ofNat 2))), some 50, none⟩, []⟩]
def r58_12 : List XLine := [⟨⟨.mv (.slot 0), some 51, none⟩, []⟩,
  ⟨⟨.mv (.slot 1), some 52, none⟩, []⟩,
  ⟨⟨.mv (.slot 2), some 53, none⟩, []⟩,
  ⟨⟨.call (.const (.func 82 [] [])) [(.slot 51), (.slot 52), (.slot 53)], some 54, none⟩, []⟩]
def r58_13 : List XLine := [⟨⟨.mv (.slot 2), some 55, none⟩, []⟩,
  ⟨⟨.bin .sub 3 .num (.slot 55) (.const (.int .i64 (.ofNat 1))), some 56, none⟩, []⟩,
  ⟨⟨.mv (.slot 11), some 57, none⟩, []⟩,
  ⟨⟨.mv (.slot 1), some 58, none⟩, []⟩,
  ⟨⟨.bin .sub 3 .num (.slot 57) (.slot 58), some 59, none⟩, []⟩,
  ⟨⟨.bin .sub 3 .num (.slot 56) (.slot 59), some 60, none⟩, []⟩,
  ⟨⟨.mv (.slot 60), some 11, none⟩, []⟩]
def r58_14 : List XLine := [⟨⟨.mv (.const (.int .i64 (.ofNat 1))), some 12, none⟩, []⟩]
def r58_15 : List XLine := [⟨⟨.mv (.slot 8), some 61, none⟩, []⟩,
  ⟨⟨.mv (.slot 61), some 62, none⟩, []⟩,
  ⟨⟨.mv (.slot 9), some 63, some (62, true)⟩, []⟩,
  ⟨⟨.pick (.slot 62) (.slot 63) (.const (.bool false)), some 64, none⟩, []⟩,
  ⟨⟨.mv (.slot 64), some 65, none⟩, []⟩,
  ⟨⟨.mv (.slot 12), some 66, some (65, true)⟩, []⟩,
  ⟨⟨.bin .eql 113 .num (.slot 66) (.const (.int .i64 (.ofNat 1))), some 67, some (65, true)⟩, []⟩,
  ⟨⟨.pick (.slot 65) (.slot 67) (.const (.bool false)), some 68, none⟩, []⟩]
def r58_16 : List XLine := [⟨⟨.mv (.slot 0), some 69, none⟩, []⟩,
  ⟨⟨.mv (.slot 1), some 70, none⟩, []⟩,
  ⟨⟨.mv (.slot 2), some 71, none⟩, []⟩,
  ⟨⟨.call (.const (.func 83 [] [])) [(.slot 69), (.slot 70), (.slot 71)], some 72, none⟩, []⟩]
def r58_17 : List XLine := [⟨⟨.mv (.slot 1), some 73, none⟩, []⟩,
  ⟨⟨.bin .gtr 3 .num (.slot 73) (.const (.int .i64 (.ofNat 0))), some 74, none⟩, []⟩,
  ⟨⟨.mv (.slot 74), some 75, none⟩, []⟩,
  ⟨⟨.mv (.slot 0), some 76, some (75, true)⟩, []⟩,
  ⟨⟨.mv (.slot 1), some 77, some (75, true)⟩, []⟩,
  ⟨⟨.bin .sub 3 .num (.slot 77) (.const (.int .i64 (.ofNat 1))), some 78, some (75, true)⟩, []⟩,
  ⟨⟨.iaddr 1 (.slot 76) (.slot 78), some 79, some (75, true)⟩, []⟩,
  ⟨⟨.load false 1 (.slot 79), some 80, some (75, true)⟩, []⟩,
  ⟨⟨.mv (.slot 0), some 81, some (75, true)⟩, []⟩,
  ⟨⟨.mv (.slot 11), some 82, some (75, true)⟩, []⟩,
  ⟨⟨.iaddr 1 (.slot 81) (.slot 82), some 83, some (75, true)⟩, []⟩,
  ⟨⟨.load false 1 (.slot 83), some 84, some (75, true)⟩, []⟩,
  ⟨⟨.call (.const (.func 84 [] [])) [(.slot 80), (.slot 84)], some 85, some (75, true)⟩, []⟩,
  ⟨⟨.un .not (.slot 85), some 86, some (75, true)⟩, []⟩,
  ⟨⟨.pick (.slot 75) (.slot 86) (.const (.bool false)), some 87, none⟩, []⟩]
def r58_18 : List XLine := [⟨⟨.mv (.slot 0), some 88, none⟩, []⟩,
  ⟨⟨.mv (.slot 1), some 89, none⟩, []⟩,
  ⟨⟨.mv (.slot 2), some 90, none⟩, []⟩,
  ⟨⟨.mv (.slot 11), some 91, none⟩, []⟩,
  ⟨⟨.call (.const (.func 85 [] [])) [(.slot 88), (.slot 89), (.slot 90), (.slot 91)], some 92, none⟩, []⟩,
  ⟨⟨.mv (.slot 92), some 13, none⟩, []⟩]
def r58_19 : List XLine := [⟨⟨.mv (.slot 13), some 93, none⟩, []⟩,
  ⟨⟨.mv (.slot 93), some 1, none⟩, []⟩]
def r58_20 : List XLine := [⟨⟨.mv (.slot 0), some 95, none⟩, []⟩,
  ⟨⟨.mv (.slot 1), some 96, none⟩, []⟩,
  ⟨⟨.mv (.slot 2), some 97, none⟩, []⟩,
  ⟨⟨.mv (.slot 11), some 98, none⟩, []⟩,
  ⟨⟨.call (.const (.func 86 [] [])) [(.slot 95), (.slot 96), (.slot 97), (.slot 98)], some 99, none⟩, []⟩,
  ⟨⟨.mv (.slot 99), some 94, none⟩, []⟩,
  ⟨⟨.extract (.slot 94) 0, some 100, none⟩, []⟩,
  ⟨⟨.extract (.slot 94) 1, some 101, none⟩, []⟩,
  ⟨⟨.mv (.slot 100), some 14, none⟩, []⟩,
  ⟨⟨.mv (.slot 101), some 15, none⟩, []⟩]
def r58_21 : List XLine := [⟨⟨.mv (.slot 15), some 102, none⟩, []⟩,
  ⟨⟨.mv (.slot 102), some 9, none⟩, []⟩]
def r58_22 : List XLine := [⟨⟨.mv (.slot 14), some 103, none⟩, []⟩,
  ⟨⟨.mv (.slot 1), some 104, none⟩, []⟩,
  ⟨⟨.bin .sub 3 .num (.slot 103) (.slot 104), some 105, none⟩, []⟩,
  ⟨⟨.mv (.slot 2), some 106, none⟩, []⟩,
  ⟨⟨.mv (.slot 14), some 107, none⟩, []⟩,
  ⟨⟨.bin .sub 3 .num (.slot 106) (.slot 107), some 108, none⟩, []⟩,
  ⟨⟨.mv (.slot 105), some 16, none⟩, []⟩,
  ⟨⟨.mv (.slot 108), some 17, none⟩, []⟩]
def r58_23 : List XLine := [⟨⟨.mv (.slot 10), some 109, none⟩, []⟩,
  ⟨⟨.bin .quo 3 .num (.slot 109) (.const (.int .i64 (.ofNat 8))), some 110, none⟩, []⟩,
  ⟨⟨.mv (.slot 110), some 18, none⟩, []⟩]
def r58_24 : List XLine := [⟨⟨.mv (.slot 16), some 111, none⟩, []⟩,
  ⟨⟨.mv (.slot 17), some 112, none⟩, []⟩,
  ⟨⟨.bin .lss 3 .num (.slot 111) (.slot 112), some 113, none⟩, []⟩]
def r58_25 : List XLine := [⟨⟨.mv (.slot 16), some 114, none⟩, []⟩,
  ⟨⟨.mv (.slot 18), some 115, none⟩, []⟩,
  ⟨⟨.bin .geq 3 .num (.slot 114) (.slot 115), some 116, none⟩, []⟩,
  ⟨⟨.mv (.slot 116), some 8, none⟩, []⟩]
def r58_26 : List XLine := [⟨⟨.mv (.slot 0), some 117, none⟩, []⟩,
  ⟨⟨.mv (.slot 1), some 118, none⟩, []⟩,
  ⟨⟨.mv (.slot 14), some 119, none⟩, []⟩,
  ⟨⟨.mv (.slot 3), some 120, none⟩, []⟩,
  ⟨⟨.call (.const (.func 58 [] [])) [(.slot 117), (.slot 118), (.slot 119), (.slot 120)], some 121, none⟩, []⟩]
def r58_27 : List XLine := [⟨⟨.mv (.slot 14), some 122, none⟩, []⟩,
  ⟨⟨.bin .add 3 .num (.slot 122) (.const (.int .i64 (.ofNat 1))), some 123, none⟩, []⟩,
  ⟨⟨.mv (.slot 123), some 1, none⟩, []⟩]
def r58_28 : List XLine := [⟨⟨.mv (.slot 17), some 124, none⟩, []⟩,
  ⟨⟨.mv (.slot 18), some 125, none⟩, []⟩,
  ⟨⟨.bin .geq 3 .num (.slot 124) (.slot 125), some 126, none⟩, []⟩,
  ⟨⟨.mv (.slot 126), some 8, none⟩, []⟩]
def r58_29 : List XLine := [⟨⟨.mv (.slot 0), some 127, none⟩, []⟩,
  ⟨⟨.mv (.slot 14), some 128, none⟩, []⟩,
  ⟨⟨.bin .add 3 .num (.slot 128) (.const (.int .i64 (.ofNat 1))), some 129, none⟩, []⟩,
  ⟨⟨.mv (.slot 2), some 130, none⟩, []⟩,
  ⟨⟨.mv (.slot 3), some 131, none⟩, []⟩,
  ⟨⟨.call (.const (.func 58 [] [])) [(.slot 127), (.slot 129), (.slot 130), (.slot 131)], some 132, none⟩, []⟩]
def r58_30 : List XLine := [⟨⟨.mv (.slot 14), some 133, none⟩, []⟩,
  ⟨⟨.mv (.slot 133), some 2, none⟩, []⟩]
def xf58 : XFunc := ⟨(.seq (.region false r58_0)
  (.seq (.region false r58_1)
  (.block 0 (.loop (.block 1 (.seq (.region false r58_2)
  (.seq (.seq (.region false r58_3)
  (.cond (.slot 23)
  (.seq (.region false r58_4)
  .ret)
  .skip))
  (.seq (.seq (.region false r58_5)
  (.cond (.slot 29)
  (.seq (.region false r58_6)
  .ret)
  .skip))
  (.seq (.seq (.region false r58_7)
  (.cond (.slot 35)
  (.seq (.region false r58_8)
  (.region false r58_9))
  .skip))
  (.seq (.region false r58_10)
  (.seq (.seq (.region false r58_11)
  (.cond (.slot 50)
  (.seq (.region false r58_12)
  (.seq (.region false r58_13)
  (.region false r58_14)))
  .skip))
  (.seq (.seq (.region false r58_15)
  (.cond (.slot 68)
  (.seq (.region false r58_16)
  (.cond (.slot 72)
  .ret
  .skip))
  .skip))
  (.seq (.seq (.region true r58_17)
  (.cond (.slot 87)
  (.seq (.region false r58_18)
  (.seq (.region false r58_19)
  (.exit 1)))
  .skip))
  (.seq (.region false r58_20)
  (.seq (.region false r58_21)
  (.seq (.region false r58_22)
  (.seq (.region false r58_23)
  (.seq (.region false r58_24)
  (.cond (.slot 113)
  (.seq (.region false r58_25)
  (.seq (.region false r58_26)
  (.region false r58_27)))
  (.seq (.region false r58_28)
  (.seq (.region false r58_29)
  (.region false r58_30)))))))))))))))))))))),
  []⟩
theorem xf58_ok : compFunc Try.prog Try.f58 = some xf58 := by kernel_rfl
/- slices.IndexFunc[threshing/api.Clause,threshing/api.Lit] -/
def r59_0 : List XLine := [⟨⟨.mv (.const (.int .i64 (.ofNat 0))), some 4, none⟩, []⟩]
def r59_1 : List XLine := [⟨⟨.mv (.slot 0), some 6, none⟩, []⟩,
  ⟨⟨.len .slice (.slot 6), some 7, none⟩, []⟩,
  ⟨⟨.mv (.const (.int .i64 (.ofNat 0))), some 8, none⟩, []⟩]
def r59_2 : List XLine := [⟨⟨.bin .lss 3 .num (.slot 8) (.slot 7), some 9, none⟩, []⟩]
def r59_3 : List XLine := [⟨⟨.mv (.slot 8), some 10, none⟩, []⟩,
  ⟨⟨.mv (.slot 10), some 5, none⟩, []⟩]
def r59_4 : List XLine := [⟨⟨.mv (.slot 1), some 11, none⟩, []⟩,
  ⟨⟨.mv (.slot 0), some 12, none⟩, []⟩,
  ⟨⟨.mv (.slot 5), some 13, none⟩, []⟩,
  ⟨⟨.iaddr 1 (.slot 12) (.slot 13), some 14, none⟩, []⟩,
  ⟨⟨.load false 1 (.slot 14), some 15, none⟩, []⟩,
  ⟨⟨.call (.slot 11) [(.slot 15)], some 16, none⟩, []⟩]
def r59_5 : List XLine := [⟨⟨.mv (.slot 5), some 17, none⟩, []⟩,
  ⟨⟨.mv (.slot 17), some 4, none⟩, []⟩]
def r59_6 : List XLine := [⟨⟨.bin .add 3 .num (.slot 8) (.const (.int .i64 (.ofNat 1))), some 18, none⟩, []⟩,
  ⟨⟨.mv (.slot 18), some 8, none⟩, []⟩]
def r59_7 : List XLine := [⟨⟨.mv (.const (.int .i64 (.negSucc 0))), some 4, none⟩, []⟩]
def xf59 : XFunc := ⟨(.seq (.region false r59_0)
  (.seq (.seq (.region false r59_1)
  (.block 0 (.loop (.seq (.region false r59_2)
  (.seq (.cond (.slot 9)
  .skip
  (.exit 0))
  (.seq (.block 1 (.seq (.region false r59_3)
  (.seq (.region false r59_4)
  (.cond (.slot 16)
  (.seq (.region false r59_5)
  .ret)
  .skip))))
  (.region false r59_6)))))))
  (.seq (.region false r59_7)
  .ret))),
  [.tmp 4]⟩
theorem xf59_ok : compFunc Try.prog Try.f59 = some xf59 := by kernel_rfl
/- (threshing/cnf.lit).variable -/
def r60_0 : List XLine := [⟨⟨.mv (.const (.int .i64 (.ofNat 0))), some 2, none⟩, []⟩]
def r60_1 : List XLine := [⟨⟨.mv (.slot 0), some 3, none⟩, []⟩,
  ⟨⟨.bin .lss 110 .num (.slot 3) (.const (.int .i32 (.ofNat 0))), some 4, none⟩, []⟩]
def r60_2 : List XLine := [⟨⟨.mv (.slot 0), some 5, none⟩, []⟩,
  ⟨⟨.conv .i64 (.slot 5), some 6, none⟩, []⟩,
  ⟨⟨.un .neg (.slot 6), some 7, none⟩, []⟩,
  ⟨⟨.mv (.slot 7), some 2, none⟩, []⟩]
def r60_3 : List XLine := [⟨⟨.mv (.slot 0), some 8, none⟩, []⟩,
  ⟨⟨.conv .i64 (.slot 8), some 9, none⟩, []⟩,
  ⟨⟨.mv (.slot 9), some 2, none⟩, []⟩]
def xf60 : XFunc := ⟨(.seq (.region false r60_0)
  (.seq (.seq (.region false r60_1)
  (.cond (.slot 4)
  (.seq (.region false r60_2)
  .ret)
  .skip))
  (.seq (.region false r60_3)
  .ret))),
  [.tmp 2]⟩
theorem xf60_ok : compFunc Try.prog Try.f60 = some xf60 := by kernel_rfl
/- slices.insertionSortCmpFunc[threshing/api.Lit] -/
def r61_0 : List XLine := [⟨⟨.mv (.slot 1), some 10, none⟩, []⟩,
  ⟨⟨.bin .add 3 .num (.slot 10) (.const (.int .i64 (.ofNat 1))), some 11, none⟩, []⟩,
  ⟨⟨.mv (.slot 11), some 8, none⟩, []⟩]
def r61_1 : List XLine := [⟨⟨.mv (.slot 8), some 12, none⟩, []⟩,
  ⟨⟨.mv (.slot 2), some 13, none⟩, []⟩,
  ⟨⟨.bin .lss 3 .num (.slot 12) (.slot 13), some 14, none⟩, []⟩]
def r61_2 : List XLine := [⟨⟨.mv (.slot 8), some 17, none⟩, []⟩,
  ⟨⟨.mv (.slot 17), some 9, none⟩, []⟩]
def r61_3 : List XLine := [⟨⟨.mv (.slot 9), some 18, none⟩, []⟩,
  ⟨⟨.mv (.slot 1), some 19, none⟩, []⟩,
  ⟨⟨.bin .gtr 3 .num (.slot 18) (.slot 19), some 20, none⟩, []⟩,
  ⟨⟨.mv (.slot 20), some 21, none⟩, []⟩,
  ⟨⟨.mv (.slot 3), some 22, some (21, true)⟩, []⟩,
  ⟨⟨.mv (.slot 0), some 23, some (21, true)⟩, []⟩,
  ⟨⟨.mv (.slot 9), some 24, some (21, true)⟩, []⟩,
  ⟨⟨.iaddr 1 (.slot 23) (.slot 24), some 25, some (21, true)⟩, []⟩,
  ⟨⟨.load false 1 (.slot 25), some 26, some (21, true)⟩, []⟩,
  ⟨⟨.mv (.slot 0), some 27, some (21, true)⟩, []⟩,
  ⟨⟨.mv (.slot 9), some 28, some (21, true)⟩, []⟩,
  ⟨⟨.bin .sub 3 .num (.slot 28) (.const (.int .i64 (.ofNat 1))), some 29, some (21, true)⟩, []⟩,
  ⟨⟨.iaddr 1 (.slot 27) (.slot 29), some 30, some (21, true)⟩, []⟩,
  ⟨⟨.load false 1 (.slot 30), some 31, some (21, true)⟩, []⟩,
  ⟨⟨.call (.slot 22) [(.slot 26), (.slot 31)], some 32, some (21, true)⟩, []⟩,
  ⟨⟨.bin .lss 3 .num (.slot 32) (.const (.int .i64 (.ofNat 0))), some 33, some (21, true)⟩, []⟩,
  ⟨⟨.pick (.slot 21) (.slot 33) (.const (.bool false)), some 34, none⟩, []⟩]
def r61_4 : List XLine := [⟨⟨.mv (.slot 0), some 37, none⟩, []⟩,
  ⟨⟨.mv (.slot 9), some 38, none⟩, []⟩,
  ⟨⟨.mv (.slot 0), some 39, none⟩, []⟩,
  ⟨⟨.mv (.slot 9), some 40, none⟩, []⟩,
  ⟨⟨.bin .sub 3 .num (.slot 40) (.const (.int .i64 (.ofNat 1))), some 41, none⟩, []⟩,
  ⟨⟨.mv (.slot 0), some 42, none⟩, []⟩,
  ⟨⟨.mv (.slot 9), some 43, none⟩, []⟩,
  ⟨⟨.bin .sub 3 .num (.slot 43) (.const (.int .i64 (.ofNat 1))), some 44, none⟩, []⟩,
  ⟨⟨.iaddr 1 (.slot 42) (.slot 44), some 45, none⟩, []⟩,
  ⟨⟨.load false 1 (.slot 45), some 46, none⟩, []⟩,
  ⟨⟨.mv (.slot 0), some 47, none⟩, []⟩,
  ⟨⟨.mv (.slot 9), some 48, none⟩, []⟩,
  ⟨⟨.iaddr 1 (.slot 47) (.slot 48), some 49, none⟩, []⟩,
  ⟨⟨.load false 1 (.slot 49), some 50, none⟩, []⟩,
  ⟨⟨.iaddr 1 (.slot 37) (.slot 38), some 51, none⟩, []⟩,
  ⟨⟨.store 1 (.slot 51) (.slot 46), none, none⟩, []⟩,
  ⟨⟨.iaddr 1 (.slot 39) (.slot 41), some 52, none⟩, []⟩,
  ⟨⟨.store 1 (.slot 52) (.slot 50), none, none⟩, []⟩]
def r61_5 : List XLine := [⟨⟨.mv (.slot 9), some 35, none⟩, []⟩,
  ⟨⟨.bin .sub 3 .num (.slot 35) (.const (.int .i64 (.ofNat 1))), some 36, none⟩, []⟩,
  ⟨⟨.mv (.slot 36), some 9, none⟩, []⟩]
def r61_6 : List XLine := [⟨⟨.mv (.slot 8), some 15, none⟩, []⟩,
  ⟨⟨.bin .add 3 .num (.slot 15) (.const (.int .i64 (.ofNat 1))), some 16, none⟩, []⟩,
  ⟨⟨.mv (.slot 16), some 8, none⟩, []⟩]
def xf61 : XFunc := ⟨(.seq (.region false r61_0)
  (.block 0 (.loop (.seq (.seq (.region false r61_1)
  (.cond (.slot 14)
  .skip
  (.exit 0)))
  (.seq (.block 1 (.seq (.region false r61_2)
  (.block 2 (.loop (.seq (.seq (.region true r61_3)
  (.cond (.slot 34)
  .skip
  (.exit 2)))
  (.seq (.block 3 (.region true r61_4))
  (.region false r61_5)))))))
  (.region false r61_6)))))),
  []⟩
theorem xf61_ok : compFunc Try.prog Try.f61 = some xf61 := by kernel_rfl
/- slices.heapSortCmpFunc[threshing/api.Lit] -/
def r62_0 : List XLine := [⟨⟨.mv (.slot 1), some 13, none⟩, []⟩,
  ⟨⟨.mv (.slot 13), some 8, none⟩, []⟩]
def r62_1 : List XLine := [⟨⟨.mv (.const (.int .i64 (.ofNat 0))), some 9, none⟩, []⟩]
def r62_2 : List XLine := [⟨⟨.mv (.slot 2), some 14, none⟩, []⟩,
  ⟨⟨.mv (.slot 1), some 15, none⟩, []⟩,
  ⟨⟨.bin .sub 3 .num (.slot 14) (.slot 15), some 16, none⟩, []⟩,
  ⟨⟨.mv (.slot 16), some 10, none⟩, []⟩]
def r62_3 : List XLine := [⟨⟨.mv (.slot 10), some 17, none⟩, []⟩,
  ⟨⟨.bin .sub 3 .num (.slot 17) (.const (.int .i64 (.ofNat 1))), some 18, none⟩, []⟩,
  ⟨⟨.bin .quo 3 .num (.slot 18) (.const (.int .i64 (.ofNat 2))), some 19, none⟩, []⟩,
  ⟨⟨.mv (.slot 19), some 11, none⟩, []⟩]
def r62_4 : List XLine := [⟨⟨.mv (.slot 11), some 20, none⟩, []⟩,
  ⟨⟨.bin .geq 3 .num (.slot 20) (.const (.int .i64 (.ofNat 0))), some 21, none⟩, []⟩]
def r62_5 : List XLine := [⟨⟨.mv (.slot 0), some 24, none⟩, []⟩,
  ⟨⟨.mv (.slot 11), some 25, none⟩, []⟩,
  ⟨⟨.mv (.slot 10), some 26, none⟩, []⟩,
  ⟨⟨.mv (.slot 8), some 27, none⟩, []⟩,
  ⟨⟨.mv (.slot 3), some 28, none⟩, []⟩,
  ⟨⟨.call (.const (.func 87 [] [])) [(.slot 24), (.slot 25), (.slot 26), (.slot 27), (.slot 28)], some 29, none⟩, []⟩]
def r62_6 : List XLine := [⟨⟨.mv (.slot 11), some 22, none⟩, []⟩,
  ⟨⟨.bin .sub 3 .num (.slot 22) (.const (.int .i64 (.ofNat 1))), some 23, none⟩, []⟩,
  ⟨⟨.mv (.slot 23), some 11, none⟩, []⟩]
def r62_7 : List XLine := [⟨⟨.mv (.slot 10), some 30, none⟩, []⟩,
  ⟨⟨.bin .sub 3 .num (.slot 30) (.const (.int .i64 (.ofNat 1))), some 31, none⟩, []⟩,
  ⟨⟨.mv (.slot 31), some 12, none⟩, []⟩]
def r62_8 : List XLine := [⟨⟨.mv (.slot 12), some 32, none⟩, []⟩,
  ⟨⟨.bin .geq 3 .num (.slot 32) (.const (.int .i64 (.ofNat 0))), some 33, none⟩, []⟩]
def r62_9 : List XLine := [⟨⟨.mv (.slot 0), some 36, none⟩, []⟩,
  ⟨⟨.mv (.slot 8), some 37, none⟩, []⟩,
  ⟨⟨.mv (.slot 0), some 38, none⟩, []⟩,
  ⟨⟨.mv (.slot 8), some 39, none⟩, []⟩,
  ⟨⟨.mv (.slot 12), some 40, none⟩, []⟩,
  ⟨⟨.bin .add 3 .num (.slot 39) (.slot 40), some 41, none⟩, []⟩,
  ⟨⟨.mv (.slot 0), some 42, none⟩, []⟩,
  ⟨⟨.mv (.slot 8), some 43, none⟩, []⟩,
  ⟨⟨.mv (.slot 12), some 44, none⟩, []⟩,
  ⟨⟨.bin .add 3 .num (.slot 43) (.slot 44), some 45, none⟩, []⟩,
  ⟨⟨.iaddr 1 (.slot 42) (.slot 45), some 46, none⟩, []⟩,
  ⟨⟨.load false 1 (.slot 46), some 47, none⟩, []⟩,
  ⟨⟨.mv (.slot 0), some 48, none⟩, []⟩,
  ⟨⟨.mv (.slot 8), some 49, none⟩, []⟩,
  ⟨⟨.iaddr 1 (.slot 48) (.slot 49), some 50, none⟩, []⟩,
  ⟨⟨.load false 1 (.slot 50), some 51, none⟩, []⟩,
  ⟨⟨.iaddr 1 (.slot 36) (.slot 37), some 52, none⟩, []⟩,
  ⟨⟨.store 1 (.slot 52) (.slot 47), none, none⟩, []⟩,
  ⟨⟨.iaddr 1 (.slot 38) (.slot 41), some 53, none⟩, []⟩,
  ⟨⟨.store 1 (.slot 53) (.slot 51), none, none⟩, []⟩]
def r62_10 : List XLine := [⟨⟨.mv (.slot 0), some 54, none⟩, []⟩,
  ⟨⟨.mv (.slot 9), some 55, none⟩, []⟩,
  ⟨⟨.mv (.slot 12), some 56, none⟩, []⟩,
  ⟨⟨.mv (.slot 8), some 57, none⟩, []⟩,
  ⟨⟨.mv (.slot 3), some 58, none⟩, []⟩,
  ⟨⟨.call (.const (.func 87 [] [])) [(.slot 54), (.slot 55), (.slot 56), (.slot 57), (.slot 58)], some 59, none⟩, []⟩]
def r62_11 : List XLine := [⟨⟨.mv (.slot 12), some 34, none⟩, []⟩,
  ⟨⟨.bin .sub 3 .num (.slot 34) (.const (.int .i64 (.ofNat 1))), some 35, none⟩, []⟩,
  ⟨⟨.mv (.slot 35), some 12, none⟩, []⟩]
def xf62 : XFunc := ⟨(.seq (.region false r62_0)
  (.seq (.region false r62_1)
  (.seq (.region false r62_2)
  (.seq (.seq (.region false r62_3)
  (.block 0 (.loop (.seq (.seq (.region false r62_4)
  (.cond (.slot 21)
  .skip
  (.exit 0)))
  (.seq (.block 1 (.region false r62_5))
  (.region false r62_6))))))
  (.seq (.region false r62_7)
  (.block 2 (.loop (.seq (.seq (.region false r62_8)
  (.cond (.slot 33)
  .skip
  (.exit 2)))
  (.seq (.block 3 (.seq (.region true r62_9)
  (.region false r62_10)))
  (.region false r62_11)))))))))),
  []⟩
theorem xf62_ok : compFunc Try.prog Try.f62 = some xf62 := by kernel_rfl
/- slices.breakPatternsCmpFunc[threshing/api.Lit] -/
def r63_0 : List XLine := [⟨⟨.mv (.slot 2), some 13, none⟩, []⟩,
  ⟨⟨.mv (.slot 1), some 14, none⟩, []⟩,
  ⟨⟨.bin .sub 3 .num (.slot 13) (.slot 14), some 15, none⟩, []⟩,
  ⟨⟨.mv (.slot 15), some 8, none⟩, []⟩]
def r63_1 : List XLine := [⟨⟨.mv (.slot 8), some 16, none⟩, []⟩,
  ⟨⟨.bin .geq 3 .num (.slot 16) (.const (.int .i64 (.ofNat 8))), some 17, none⟩, []⟩]
def r63_2 : List XLine := [⟨⟨.mv (.slot 8), some 18, none⟩, []⟩,
  ⟨⟨.conv .u64 (.slot 18), some 19, none⟩, []⟩,
  ⟨⟨.alloc [(.int .u64 (.ofNat 0))], some 9, none⟩, []⟩,
  ⟨⟨.store 1 (.slot 9) (.slot 19), none, none⟩, []⟩]
def r63_3 : List XLine := [⟨⟨.mv (.slot 8), some 20, none⟩, []⟩,
  ⟨⟨.call (.const (.func 88 [] [])) [(.slot 20)], some 21, none⟩, []⟩,
  ⟨⟨.mv (.slot 21), some 10, none⟩, []⟩]
def r63_4 : List XLine := [⟨⟨.mv (.slot 1), some 22, none⟩, []⟩,
  ⟨⟨.mv (.slot 8), some 23, none⟩, []⟩,
  ⟨⟨.bin .quo 3 .num (.slot 23) (.const (.int .i64 (.ofNat 4))), some 24, none⟩, []⟩,
  ⟨⟨.bin .mul 3 .num (.slot 24) (.const (.int .i64 (.ofNat 2))), some 25, none⟩, []⟩,
  ⟨⟨.bin .add 3 .num (.slot 22) (.slot 25), some 26, none⟩, []⟩,
  ⟨⟨.bin .sub 3 .num (.slot 26) (.const (.int .i64 (.ofNat 1))), some 27, none⟩, []⟩,
  ⟨⟨.mv (.slot 27), some 11, none⟩, []⟩]
def r63_5 : List XLine := [⟨⟨.mv (.slot 11), some 28, none⟩, []⟩,
  ⟨⟨.mv (.slot 1), some 29, none⟩, []⟩,
  ⟨⟨.mv (.slot 8), some 30, none⟩, []⟩,
  ⟨⟨.bin .quo 3 .num (.slot 30) (.const (.int .i64 (.ofNat 4))), some 31, none⟩, []⟩,
  ⟨⟨.bin .mul 3 .num (.slot 31) (.const (.int .i64 (.ofNat 2))), some 32, none⟩, []⟩,
  ⟨⟨.bin .add 3 .num (.slot 29) (.slot 32), some 33, none⟩, []⟩,
  ⟨⟨.bin .add 3 .num (.slot 33) (.const (.int .i64 (.ofNat 1))), some 34, none⟩, []⟩,
  ⟨⟨.bin .leq 3 .num (.slot 28) (.slot 34), some 35, none⟩, []⟩]
def r63_6 : List XLine := [⟨⟨.call (.const (.func 89 [] [])) [(.slot 9)], some 38, none⟩, []⟩,
  ⟨⟨.mv (.slot 10), some 39, none⟩, []⟩,
  ⟨⟨.bin .sub 98 .num (.slot 39) (.const (.int .u64 (.ofNat 1))), some 40, none⟩, []⟩,
  ⟨⟨.bin .and 98 .num (.slot 38) (.slot 40), some 41, none⟩, []⟩,
  ⟨⟨.conv .i64 (.slot 41), some 42, none⟩, []⟩,
  ⟨⟨.mv (.slot 42), some 12, none⟩, []⟩]
def r63_7 : List XLine := [⟨⟨.mv (.slot 12), some 43, none⟩, []⟩,
  ⟨⟨.mv (.slot 8), some 44, none⟩, []⟩,
  ⟨⟨.bin .geq 3 .num (.slot 43) (.slot 44), some 45, none⟩, []⟩]
def r63_8 : List XLine := [⟨⟨.mv (.slot 12), some 46, none⟩, []⟩,
  ⟨⟨.mv (.slot 8), some 47, none⟩, []⟩,
  ⟨⟨.bin .sub 3 .num (.slot 46) (.slot 47), some 48, none⟩, []⟩,
  ⟨⟨.mv (.slot 48), some 12, none⟩, []⟩]
def r63_9 : List XLine := [⟨⟨.mv (.slot 0), some 49, none⟩, []⟩,
  ⟨⟨.mv (.slot 11), some 50, none⟩, []⟩,
  ⟨⟨.mv (.slot 0), some 51, none⟩, []⟩,
  ⟨⟨.mv (.slot 1), some 52, none⟩, []⟩,
  ⟨⟨.mv (.slot 12), some 53, none⟩, []⟩,
  ⟨⟨.bin .add 3 .num (.slot 52) (.slot 53), some 54, none⟩, []⟩,
  ⟨⟨.mv (.slot 0), some 55, none⟩, []⟩,
  ⟨⟨.mv (.slot 1), some 56, none⟩, []⟩,
  ⟨⟨.mv (.slot 12), some 57, none⟩, []⟩,
  ⟨⟨.bin .add 3 .num (.slot 56) (.slot 57), some 58, none⟩, []⟩,
  ⟨⟨.iaddr 1 (.slot 55) (.slot 58), some 59, none⟩, []⟩,
  ⟨⟨.load false 1 (.slot 59), some 60, none⟩, []⟩,
  ⟨⟨.mv (.slot 0), some 61, none⟩, []⟩,
  ⟨⟨.mv (.slot 11), some 62, none⟩, []⟩,
  ⟨⟨.iaddr 1 (.slot 61) (.slot 62), some 63, none⟩, []⟩,
  ⟨⟨.load false 1 (.slot 63), some 64, none⟩, []⟩,
  ⟨⟨.iaddr 1 (.slot 49) (.slot 50), some 65, none⟩, []⟩,
  ⟨⟨.store 1 (.slot 65) (.slot 60), none, none⟩, []⟩,
  ⟨⟨.iaddr 1 (.slot 51) (.slot 54), some 66, none⟩, []⟩,
  ⟨⟨.store 1 (.slot 66) (.slot 64), none, none⟩, []⟩]
def r63_10 : List XLine := [⟨⟨.mv (.slot 11), some 36, none⟩, []⟩,
  ⟨⟨.bin .add 3 .num (.slot 36) (.const (.int .i64 (.ofNat 1))), some 37, none⟩, []⟩,
  ⟨⟨.mv (.slot 37), some 11, none⟩, []⟩]
def xf63 : XFunc := ⟨(.seq (.region false r63_0)
  (.seq (.region false r63_1)
  (.cond (.slot 17)
  (.seq (.region false r63_2)
  (.seq (.region false r63_3)
  (.seq (.region false r63_4)
  (.block 0 (.loop (.seq (.seq (.region false r63_5)
  (.cond (.slot 35)
  .skip
  (.exit 0)))
  (.seq (.block 1 (.seq (.region false r63_6)
  (.seq (.seq (.region false r63_7)
  (.cond (.slot 45)
  (.region false r63_8)
  .skip))
  (.region true r63_9))))
  (.region false r63_10))))))))
  .skip))),
  []⟩
theorem xf63_ok : compFunc Try.prog Try.f63 = some xf63 := by kernel_rfl
/- slices.choosePivotCmpFunc[threshing/api.Lit] -/
def r64_0 : List XLine := [⟨⟨.mv (.const (.int .i64 (.ofNat 0))), some 8, none⟩, []⟩,
  ⟨⟨.mv (.const (.int .i64 (.ofNat 0))), some 9, none⟩, []⟩]
def r64_1 : List XLine := [⟨⟨.mv (.slot 2), some 15, none⟩, []⟩,
  ⟨⟨.mv (.slot 1), some 16, none⟩, []⟩,
  ⟨⟨.bin .sub 3 .num (.slot 15) (.slot 16), some 17, none⟩, []⟩,
  ⟨⟨.mv (.slot 17), some 10, none⟩, []⟩]
def r64_2 : List XLine := [⟨⟨.alloc [(.int .i64 (.ofNat 0))], some 11, none⟩, []⟩]
def r64_3 : List XLine := [⟨⟨.mv (.slot 1), some 18, none⟩, []⟩,
  ⟨⟨.mv (.slot 10), some 19, none⟩, []⟩,
  ⟨⟨.bin .quo 3 .num (.slot 19) (.const (.int .i64 (.ofNat 4))), some 20, none⟩, []⟩,
  ⟨⟨.bin .mul 3 .num (.slot 20) (.const (.int .i64 (.ofNat 1))), some 21, none⟩, []⟩,
  ⟨⟨.bin .add 3 .num (.slot 18) (.slot 21), some 22, none⟩, []⟩,
  ⟨⟨.mv (.slot 22), some 12, none⟩, []⟩]
def r64_4 : List XLine := [⟨⟨.mv (.slot 1), some 23, none⟩, []⟩,
  ⟨⟨.mv (.slot 10), some 24, none⟩, []⟩,
  ⟨⟨.bin .quo 3 .num (.slot 24) (.const (.int .i64 (.ofNat 4))), some 25, none⟩, []⟩,
  ⟨⟨.bin .mul 3 .num (.slot 25) (.const (.int .i64 (.ofNat 2))), some 26, none⟩, []⟩,
  ⟨⟨.bin .add 3 .num (.slot 23) (.slot 26), some 27, none⟩, []⟩,
  ⟨⟨.mv (.slot 27), some 13, none⟩, []⟩]
def r64_5 : List XLine := [⟨⟨.mv (.slot 1), some 28, none⟩, []⟩,
  ⟨⟨.mv (.slot 10), some 29, none⟩, []⟩,
  ⟨⟨.bin .quo 3 .num (.slot 29) (.const (.int .i64 (.ofNat 4))), some 30, none⟩, []⟩,
  ⟨⟨.bin .mul 3 .num (.slot 30) (.const (.int .i64 (.ofNat 3))), some 31, none⟩, []⟩,
  ⟨⟨.bin .add 3 .num (.slot 28) (.slot 31), some 32, none⟩, []⟩,
  ⟨⟨.mv (.slot 32), some 14, none⟩, []⟩]
def r64_6 : List XLine := [⟨⟨.mv (.slot 10), some 33, none⟩, []⟩,
  ⟨⟨.bin .geq 3 .num (.slot 33) (.const (.int .i64 (.ofNat 8))), some 34, none⟩, []⟩]
def r64_7 : List XLine := [⟨⟨.mv (.slot 10), some 35, none⟩, []⟩,
  ⟨⟨.bin .geq 3 .num (.slot 35) (.const (.int .i64 (.ofNat 50))), some 36, none⟩, []⟩]
def r64_8 : List XLine := [⟨⟨.mv (.slot 0), some 37, none⟩, []⟩,
  ⟨⟨.mv (.slot 12), some 38, none⟩, []⟩,
  ⟨⟨.mv (.slot 3), some 39, none⟩, []⟩,
  ⟨⟨.call (.const (.func 90 [] [])) [(.slot 37), (.slot 38), (.slot 11), (.slot 39)], some 40, none⟩, []⟩,
  ⟨⟨.mv (.slot 40), some 12, none⟩, []⟩]
def r64_9 : List XLine := [⟨⟨.mv (.slot 0), some 41, none⟩, []⟩,
  ⟨⟨.mv (.slot 13), some 42, none⟩, []⟩,
  ⟨⟨.mv (.slot 3), some 43, none⟩, []⟩,
  ⟨⟨.call (.const (.func 90 [] [])) [(.slot 41), (.slot 42), (.slot 11), (.slot 43)], some 44, none⟩, []⟩,
  ⟨⟨.mv (.slot 44), some 13, none⟩, []⟩]
def r64_10 : List XLine := [⟨⟨.mv (.slot 0), some 45, none⟩, []⟩,
  ⟨⟨.mv (.slot 14), some 46, none⟩, []⟩,
  ⟨⟨.mv (.slot 3), some 47, none⟩, []⟩,
  ⟨⟨.call (.const (.func 90 [] [])) [(.slot 45), (.slot 46), (.slot 11), (.slot 47)], some 48, none⟩, []⟩,
  ⟨⟨.mv (.slot 48), some 14, none⟩, []⟩]
def r64_11 : List XLine := [⟨⟨.mv (.slot 0), some 49, none⟩, []⟩,
  ⟨⟨.mv (.slot 12), some 50, none⟩, []⟩,
  ⟨⟨.mv (.slot 13), some 51, none⟩, []⟩,
  ⟨⟨.mv (.slot 14), some 52, none⟩, []⟩,
  ⟨⟨.mv (.slot 3), some 53, none⟩, []⟩,
  ⟨⟨.call (.const (.func 91 [] [])) [(.slot 49), (.slot 50), (.slot 51), (.slot 52), (.slot 11), (.slot 53)], some 54, none⟩, []⟩,
  ⟨⟨.mv (.slot 54), some 13, none⟩, []⟩]
def r64_12 : List XLine := [⟨⟨.load false 1 (.slot 11), some 55, none⟩, []⟩]
def r64_13 : List XLine := [⟨⟨.bin .eql 3 .num (.slot 55) (.const (.int .i64 (.ofNat 0))), some 58, none⟩, []⟩,
  ⟨⟨.mv (.slot 58), some 57, none⟩, []⟩]
def r64_14 : List XLine := [⟨⟨.mv (.slot 13), some 59, none⟩, []⟩,
  ⟨⟨.mv (.slot 59), some 8, none⟩, []⟩,
  ⟨⟨.mv (.const (.int .i64 (.ofNat 1))), some 9, none⟩, []⟩]
def r64_15 : List XLine := [⟨⟨.bin .eql 3 .num (.slot 55) (.const (.int .i64 (.ofNat 12))), some 61, none⟩, []⟩,
  ⟨⟨.mv (.slot 61), some 60, none⟩, []⟩]
def r64_16 : List XLine := [⟨⟨.mv (.slot 13), some 62, none⟩, []⟩,
  ⟨⟨.mv (.slot 62), some 8, none⟩, []⟩,
  ⟨⟨.mv (.const (.int .i64 (.ofNat 2))), some 9, none⟩, []⟩]
def r64_17 : List XLine := [⟨⟨.mv (.slot 13), some 56, none⟩, []⟩,
  ⟨⟨.mv (.slot 56), some 8, none⟩, []⟩,
  ⟨⟨.mv (.const (.int .i64 (.ofNat 0))), some 9, none⟩, []⟩]
def xf64 : XFunc := ⟨(.seq (.region false r64_0)
  (.seq (.region false r64_1)
  (.seq (.region false r64_2)
  (.seq (.region false r64_3)
  (.seq (.region false r64_4)
  (.seq (.region false r64_5)
  (.seq (.seq (.region false r64_6)
  (.cond (.slot 34)
  (.seq (.seq (.region false r64_7)
  (.cond (.slot 36)
  (.seq (.region false r64_8)
  (.seq (.region false r64_9)
  (.region false r64_10)))
  .skip))
  (.region false r64_11))
  .skip))
  (.seq (.region false r64_12)
  (.block 0 (.seq (.region false r64_13)
  (.cond (.slot 57)
  (.seq (.region false r64_14)
  .ret)
  (.seq (.region false r64_15)
  (.cond (.slot 60)
  (.seq (.region false r64_16)
  .ret)
  (.seq (.region false r64_17)
  .ret)))))))))))))),
  [.tmp 8, .tmp 9]⟩
theorem xf64_ok : compFunc Try.prog Try.f64 = some xf64 := by kernel_rfl
/- slices.reverseRangeCmpFunc[threshing/api.Lit] -/
def r65_0 : List XLine := [⟨⟨.mv (.slot 1), some 10, none⟩, []⟩,
  ⟨⟨.mv (.slot 10), some 8, none⟩, []⟩]
def r65_1 : List XLine := [⟨⟨.mv (.slot 2), some 11, none⟩, []⟩,
  ⟨⟨.bin .sub 3 .num (.slot 11) (.const (.int .i64 (.ofNat 1))), some 12, none⟩, []⟩,
  ⟨⟨.mv (.slot 12), some 9, none⟩, []⟩]
def r65_2 : List XLine := [⟨⟨.mv (.slot 8), some 13, none⟩, []⟩,
  ⟨⟨.mv (.slot 9), some 14, none⟩, []⟩,
  ⟨⟨.bin .lss 3 .num (.slot 13) (.slot 14), some 15, none⟩, []⟩]
def r65_3 : List XLine := [⟨⟨.mv (.slot 0), some 16, none⟩, []⟩,
  ⟨⟨.mv (.slot 8), some 17, none⟩, []⟩,
  ⟨⟨.mv (.slot 0), some 18, none⟩, []⟩,
  ⟨⟨.mv (.slot 9), some 19, none⟩, []⟩,
  ⟨⟨.mv (.slot 0), some 20, none⟩, []⟩,
  ⟨⟨.mv (.slot 9), some 21, none⟩, []⟩,
  ⟨⟨.iaddr 1 (.slot 20) (.slot 21), some 22, none⟩, []⟩,
  ⟨⟨.load false 1 (.slot 22), some 23, none⟩, []⟩,
  ⟨⟨.mv (.slot 0), some 24, none⟩, []⟩,
  ⟨⟨.mv (.slot 8), some 25, none⟩, []⟩,
  ⟨⟨.iaddr 1 (.slot 24) (.slot 25), some 26, none⟩, []⟩,
  ⟨⟨.load false 1 (.slot 26), some 27, none⟩, []⟩,
  ⟨⟨.iaddr 1 (.slot 16) (.slot 17), some 28, none⟩, []⟩,
  ⟨⟨.store 1 (.slot 28) (.slot 23), none, none⟩, []⟩,
  ⟨⟨.iaddr 1 (.slot 18) (.slot 19), some 29, none⟩, []⟩,
  ⟨⟨.store 1 (.slot 29) (.slot 27), none, none⟩, []⟩]
def r65_4 : List XLine := [⟨⟨.mv (.slot 8), some 30, none⟩, []⟩,
  ⟨⟨.bin .add 3 .num (.slot 30) (.const (.int .i64 (.ofNat 1))), some 31, none⟩, []⟩,
  ⟨⟨.mv (.slot 31), some 8, none⟩, []⟩]
def r65_5 : List XLine := [⟨⟨.mv (.slot 9), some 32, none⟩, []⟩,
  ⟨⟨.bin .sub 3 .num (.slot 32) (.const (.int .i64 (.ofNat 1))), some 33, none⟩, []⟩,
  ⟨⟨.mv (.slot 33), some 9, none⟩, []⟩]
def xf65 : XFunc := ⟨(.seq (.region false r65_0)
  (.seq (.region false r65_1)
  (.block 0 (.loop (.seq (.seq (.region false r65_2)
  (.cond (.slot 15)
  .skip
  (.exit 0)))
  (.block 1 (.seq (.region true r65_3)
  (.seq (.region false r65_4)
  (.region false r65_5))))))))),
  []⟩
theorem xf65_ok : compFunc Try.prog Try.f65 = some xf65 := by kernel_rfl
/- slices.partialInsertionSortCmpFunc[threshing/api.Lit] -/
def r66_0 : List XLine := [⟨⟨.mv (.const (.bool false)), some 8, none⟩, []⟩]
def r66_1 : List XLine := [⟨⟨.mv (.slot 1), some 13, none⟩, []⟩,
  ⟨⟨.bin .add 3 .num (.slot 13) (.const (.int .i64 (.ofNat 1))), some 14, none⟩, []⟩,
  ⟨⟨.mv (.slot 14), some 9, none⟩, []⟩]
def r66_2 : List XLine := [⟨⟨.mv (.const (.int .i64 (.ofNat 0))), some 10, none⟩, []⟩]
def r66_3 : List XLine := [⟨⟨.mv (.slot 10), some 15, none⟩, []⟩,
  ⟨⟨.bin .lss 3 .num (.slot 15) (.const (.int .i64 (.ofNat 5))), some 16, none⟩, []⟩]
def r66_4 : List XLine := [⟨⟨.mv (.slot 9), some 19, none⟩, []⟩,
  ⟨⟨.mv (.slot 2), some 20, none⟩, []⟩,
  ⟨⟨.bin .lss 3 .num (.slot 19) (.slot 20), some 21, none⟩, []⟩,
  ⟨⟨.mv (.slot 21), some 22, none⟩, []⟩,
  ⟨⟨.mv (.slot 3), some 23, some (22, true)⟩, []⟩,
  ⟨⟨.mv (.slot 0), some 24, some (22, true)⟩, []⟩,
  ⟨⟨.mv (.slot 9), some 25, some (22, true)⟩, []⟩,
  ⟨⟨.iaddr 1 (.slot 24) (.slot 25), some 26, some (22, true)⟩, []⟩,
  ⟨⟨.load false 1 (.slot 26), some 27, some (22, true)⟩, []⟩,
  ⟨⟨.mv (.slot 0), some 28, some (22, true)⟩, []⟩,
  ⟨⟨.mv (.slot 9), some 29, some (22, true)⟩, []⟩,
  ⟨⟨.bin .sub 3 .num (.slot 29) (.const (.int .i64 (.ofNat 1))), some 30, some (22, true)⟩, []⟩,
  ⟨⟨.iaddr 1 (.slot 28) (.slot 30), some 31, some (22, true)⟩, []⟩,
  ⟨⟨.load false 1 (.slot 31), some 32, some (22, true)⟩, []⟩,
  ⟨⟨.call (.slot 23) [(.slot 27), (.slot 32)], some 33, some (22, true)⟩, []⟩,
  ⟨⟨.bin .lss 3 .num (.slot 33) (.const (.int .i64 (.ofNat 0))), some 34, some (22, true)⟩, []⟩,
  ⟨⟨.un .not (.slot 34), some 35, some (22, true)⟩, []⟩,
  ⟨⟨.pick (.slot 22) (.slot 35) (.const (.bool false)), some 36, none⟩, []⟩]
def r66_5 : List XLine := [⟨⟨.mv (.slot 9), some 37, none⟩, []⟩,
  ⟨⟨.bin .add 3 .num (.slot 37) (.const (.int .i64 (.ofNat 1))), some 38, none⟩, []⟩,
  ⟨⟨.mv (.slot 38), some 9, none⟩, []⟩]
def r66_6 : List XLine := [⟨⟨.mv (.slot 9), some 39, none⟩, []⟩,
  ⟨⟨.mv (.slot 2), some 40, none⟩, []⟩,
  ⟨⟨.bin .eql 3 .num (.slot 39) (.slot 40), some 41, none⟩, []⟩]
def r66_7 : List XLine := [⟨⟨.mv (.const (.bool true)), some 8, none⟩, []⟩]
def r66_8 : List XLine := [⟨⟨.mv (.slot 2), some 42, none⟩, []⟩,
  ⟨⟨.mv (.slot 1), some 43, none⟩, []⟩,
  ⟨⟨.bin .sub 3 .num (.slot 42) (.slot 43), some 44, none⟩, []⟩,
  ⟨⟨.bin .lss 3 .num (.slot 44) (.const (.int .i64 (.ofNat 50))), some 45, none⟩, []⟩]
def r66_9 : List XLine := [⟨⟨.mv (.const (.bool false)), some 8, none⟩, []⟩]
def r66_10 : List XLine := [⟨⟨.mv (.slot 0), some 46, none⟩, []⟩,
  ⟨⟨.mv (.slot 9), some 47, none⟩, []⟩,
  ⟨⟨.mv (.slot 0), some 48, none⟩, []⟩,
  ⟨⟨.mv (.slot 9), some 49, none⟩, []⟩,
  ⟨⟨.bin .sub 3 .num (.slot 49) (.const (.int .i64 (.ofNat 1))), some 50, none⟩, []⟩,
  ⟨⟨.mv (.slot 0), some 51, none⟩, []⟩,
  ⟨⟨.mv (.slot 9), some 52, none⟩, []⟩,
  ⟨⟨.bin .sub 3 .num (.slot 52) (.const (.int .i64 (.ofNat 1))), some 53, none⟩, []⟩,
  ⟨⟨.iaddr 1 (.slot 51) (.slot 53), some 54, none⟩, []⟩,
  ⟨⟨.load false 1 (.slot 54), some 55, none⟩, []⟩,
  ⟨⟨.mv (.slot 0), some 56, none⟩, []⟩,
  ⟨⟨.mv (.slot 9), some 57, none⟩, []⟩,
  ⟨⟨.iaddr 1 (.slot 56) (.slot 57), some 58, none⟩, []⟩,
  ⟨⟨.load false 1 (.slot 58), some 59, none⟩, []⟩,
  ⟨⟨.iaddr 1 (.slot 46) (.slot 47), some 60, none⟩, []⟩,
  ⟨⟨.store 1 (.slot 60) (.slot 55), none, none⟩, []⟩,
  ⟨⟨.iaddr 1 (.slot 48) (.slot 50), some 61, none⟩, []⟩,
  ⟨⟨.store 1 (.slot 61) (.slot 59), none, none⟩, []⟩]
def r66_11 : List XLine := [⟨⟨.mv (.slot 9), some 62, none⟩, []⟩,
  ⟨⟨.mv (.slot 1), some 63, none⟩, []⟩,
  ⟨⟨.bin .sub 3 .num (.slot 62) (.slot 63), some 64, none⟩, []⟩,
  ⟨⟨.bin .geq 3 .num (.slot 64) (.const (.int .i64 (.ofNat 2))), some 65, none⟩, []⟩]
def r66_12 : List XLine := [⟨⟨.mv (.slot 9), some 66, none⟩, []⟩,
  ⟨⟨.bin .sub 3 .num (.slot 66) (.const (.int .i64 (.ofNat 1))), some 67, none⟩, []⟩,
  ⟨⟨.mv (.slot 67), some 11, none⟩, []⟩]
def r66_13 : List XLine := [⟨⟨.mv (.slot 11), some 68, none⟩, []⟩,
  ⟨⟨.bin .geq 3 .num (.slot 68) (.const (.int .i64 (.ofNat 1))), some 69, none⟩, []⟩]
def r66_14 : List XLine := [⟨⟨.mv (.slot 3), some 72, none⟩, []⟩,
  ⟨⟨.mv (.slot 0), some 73, none⟩, []⟩,
  ⟨⟨.mv (.slot 11), some 74, none⟩, []⟩,
  ⟨⟨.iaddr 1 (.slot 73) (.slot 74), some 75, none⟩, []⟩,
  ⟨⟨.load false 1 (.slot 75), some 76, none⟩, []⟩,
  ⟨⟨.mv (.slot 0), some 77, none⟩, []⟩,
  ⟨⟨.mv (.slot 11), some 78, none⟩, []⟩,
  ⟨⟨.bin .sub 3 .num (.slot 78) (.const (.int .i64 (.ofNat 1))), some 79, none⟩, []⟩,
  ⟨⟨.iaddr 1 (.slot 77) (.slot 79), some 80, none⟩, []⟩,
  ⟨⟨.load false 1 (.slot 80), some 81, none⟩, []⟩,
  ⟨⟨.call (.slot 72) [(.slot 76), (.slot 81)], some 82, none⟩, []⟩,
  ⟨⟨.bin .lss 3 .num (.slot 82) (.const (.int .i64 (.ofNat 0))), some 83, none⟩, []⟩,
  ⟨⟨.un .not (.slot 83), some 84, none⟩, []⟩]
def r66_15 : List XLine := [⟨⟨.mv (.slot 0), some 85, none⟩, []⟩,
  ⟨⟨.mv (.slot 11), some 86, none⟩, []⟩,
  ⟨⟨.mv (.slot 0), some 87, none⟩, []⟩,
  ⟨⟨.mv (.slot 11), some 88, none⟩, []⟩,
  ⟨⟨.bin .sub 3 .num (.slot 88) (.const (.int .i64 (.ofNat 1))), some 89, none⟩, []⟩,
  ⟨⟨.mv (.slot 0), some 90, none⟩, []⟩,
  ⟨⟨.mv (.slot 11), some 91, none⟩, []⟩,
  ⟨⟨.bin .sub 3 .num (.slot 91) (.const (.int .i64 (.ofNat 1))), some 92, none⟩, []⟩,
  ⟨⟨.iaddr 1 (.slot 90) (.slot 92), some 93, none⟩, []⟩,
  ⟨⟨.load false 1 (.slot 93), some 94, none⟩, []⟩,
  ⟨⟨.mv (.slot 0), some 95, none⟩, []⟩,
  ⟨⟨.mv (.slot 11), some 96, none⟩, []⟩,
  ⟨⟨.iaddr 1 (.slot 95) (.slot 96), some 97, none⟩, []⟩,
  ⟨⟨.load false 1 (.slot 97), some 98, none⟩, []⟩,
  ⟨⟨.iaddr 1 (.slot 85) (.slot 86), some 99, none⟩, []⟩,
  ⟨⟨.store 1 (.slot 99) (.slot 94), none, none⟩, []⟩,
  ⟨⟨.iaddr 1 (.slot 87) (.slot 89), some 100, none⟩, []⟩,
  ⟨⟨.store 1 (.slot 100) (.slot 98), none, none⟩, []⟩]
def r66_16 : List XLine := [⟨⟨.mv (.slot 11), some 70, none⟩, []⟩,
  ⟨⟨.bin .sub 3 .num (.slot 70) (.const (.int .i64 (.ofNat 1))), some 71, none⟩, []⟩,
  ⟨⟨.mv (.slot 71), some 11, none⟩, []⟩]
def r66_17 : List XLine := [⟨⟨.mv (.slot 2), some 101, none⟩, []⟩,
  ⟨⟨.mv (.slot 9), some 102, none⟩, []⟩,
  ⟨⟨.bin .sub 3 .num (.slot 101) (.slot 102), some 103, none⟩, []⟩,
  ⟨⟨.bin .geq 3 .num (.slot 103) (.const (.int .i64 (.ofNat 2))), some 104, none⟩, []⟩]
def r66_18 : List XLine := [⟨⟨.mv (.slot 9), some 105, none⟩, []⟩,
  ⟨⟨.bin .add 3 .num (.slot 105) (.const (.int .i64 (.ofNat 1))), some 106, none⟩, []⟩,
  ⟨⟨.mv (.slot 106), some 12, none⟩, []⟩]
def r66_19 : List XLine := [⟨⟨.mv (.slot 12), some 107, none⟩, []⟩,
  ⟨⟨.mv (.slot 2), some 108, none⟩, []⟩,
  ⟨⟨.bin .lss 3 .num (.slot 107) (.slot 108), some 109, none⟩, []⟩]
def r66_20 : List XLine := [⟨⟨.mv (.slot 3), some 112, none⟩, []⟩,
  ⟨⟨.mv (.slot 0), some 113, none⟩, []⟩,
  ⟨⟨.mv (.slot 12), some 114, none⟩, []⟩,
  ⟨⟨.iaddr 1 (.slot 113) (.slot 114), some 115, none⟩, []⟩,
  ⟨⟨.load false 1 (.slot 115), some 116, none⟩, []⟩,
  ⟨⟨.mv (.slot 0), some 117, none⟩, []⟩,
  ⟨⟨.mv (.slot 12), some 118, none⟩, []⟩,
  ⟨⟨.bin .sub 3 .num (.slot 118) (.const (.int .i64 (.ofNat 1))), some 119, none⟩, []⟩,
  ⟨⟨.iaddr 1 (.slot 117) (.slot 119), some 120, none⟩, []⟩,
  ⟨⟨.load false 1 (.slot 120), some 121, none⟩, []⟩,
  ⟨⟨.call (.slot 112) [(.slot 116), (.slot 121)], some 122, none⟩, []⟩,
  ⟨⟨.bin .lss 3 .num (.slot 122) (.const (.int .i64 (.ofNat 0))), some 123, none⟩, []⟩,
  ⟨⟨.un .not (.slot 123), some 124, none⟩, []⟩]
def r66_21 : List XLine := [⟨⟨.mv (.slot 0), some 125, none⟩, []⟩,
  ⟨⟨.mv (.slot 12), some 126, none⟩, []⟩,
  ⟨⟨.mv (.slot 0), some 127, none⟩, []⟩,
  ⟨⟨.mv (.slot 12), some 128, none⟩, []⟩,
  ⟨⟨.bin .sub 3 .num (.slot 128) (.const (.int .i64 (.ofNat 1))), some 129, none⟩, []⟩,
  ⟨⟨.mv (.slot 0), some 130, none⟩, []⟩,
  ⟨⟨.mv (.slot 12), some 131, none⟩, []⟩,
  ⟨⟨.bin .sub 3 .num (.slot 131) (.const (.int .i64 (.ofNat 1))), some 132, none⟩, []⟩,
  ⟨⟨.iaddr 1 (.slot 130) (.slot 132), some 133, none⟩, []⟩,
  ⟨⟨.load false 1 (.slot 133), some 134, none⟩, []⟩,
  ⟨⟨.mv (.slot 0), some 135, none⟩, []⟩,
  ⟨⟨.mv (.slot 12), some 136, none⟩, []⟩,
  ⟨⟨.iaddr 1 (.slot 135) (.slot 136), some 137, none⟩, []⟩,
  ⟨⟨.load false 1 (.slot 137), some 138, none⟩, []⟩,
  ⟨⟨.iaddr 1 (.slot 125) (.slot 126), some 139, none⟩, []⟩,
  ⟨⟨.store 1 (.slot 139) (.slot 134), none, none⟩, []⟩,
  ⟨⟨.iaddr 1 (.slot 127) (.slot 129), some 140, none⟩, []⟩,
  ⟨⟨.store 1 (.slot 140) (.slot 138), none, none⟩, []⟩]
def r66_22 : List XLine := [⟨⟨.mv (.slot 12), some 110, none⟩, []⟩,
  ⟨⟨.bin .add 3 .num (.slot 110) (.const (.int .i64 (.ofNat 1))), some 111, none⟩, []⟩,
  ⟨⟨.mv (.slot 111), some 12, none⟩, []⟩]
def r66_23 : List XLine := [⟨⟨.mv (.slot 10), some 17, none⟩, []⟩,
  ⟨⟨.bin .add 3 .num (.slot 17) (.const (.int .i64 (.ofNat 1))), some 18, none⟩, []⟩,
  ⟨⟨.mv (.slot 18), some 10, none⟩, []⟩]
def r66_24 : List XLine := [⟨⟨.mv (.const (.bool false)), some 8, none⟩, []⟩]
def xf66 : XFunc := ⟨(.seq (.region false r66_0)
  (.seq (.region false r66_1)
  (.seq (.seq (.region false r66_2)
  (.block 0 (.loop (.seq (.seq (.region false r66_3)
  (.cond (.slot 16)
  .skip
  (.exit 0)))
  (.seq (.block 1 (.seq (.block 2 (.loop (.seq (.seq (.region true r66_4)
  (.cond (.slot 36)
  .skip
  (.exit 2)))
  (.block 3 (.region false r66_5)))))
  (.seq (.seq (.region false r66_6)
  (.cond (.slot 41)
  (.seq (.region false r66_7)
  .ret)
  .skip))
  (.seq (.seq (.region false r66_8)
  (.cond (.slot 45)
  (.seq (.region false r66_9)
  .ret)
  .skip))
  (.seq (.region true r66_10)
  (.seq (.seq (.region false r66_11)
  (.cond (.slot 65)
  (.seq (.region false r66_12)
  (.block 4 (.loop (.seq (.seq (.region false r66_13)
  (.cond (.slot 69)
  .skip
  (.exit 4)))
  (.seq (.block 5 (.seq (.seq (.region true r66_14)
  (.cond (.slot 84)
  (.exit 4)
  .skip))
  (.region true r66_15)))
  (.region false r66_16))))))
  .skip))
  (.seq (.region false r66_17)
  (.cond (.slot 104)
  (.seq (.region false r66_18)
  (.block 6 (.loop (.seq (.seq (.region false r66_19)
  (.cond (.slot 109)
  .skip
  (.exit 6)))
  (.seq (.block 7 (.seq (.seq (.region true r66_20)
  (.cond (.slot 124)
  (.exit 6)
  .skip))
  (.region true r66_21)))
  (.region false r66_22))))))
  .skip))))))))
  (.region false r66_23))))))
  (.seq (.region false r66_24)
  .ret)))),
  [.tmp 8]⟩
theorem xf66_ok : compFunc Try.prog Try.f66 = some xf66 := by kernel_rfl
end Go.Proofs.Ytaljkapnfkbdbaa

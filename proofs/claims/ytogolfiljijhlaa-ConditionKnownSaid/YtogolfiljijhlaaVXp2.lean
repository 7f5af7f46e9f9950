/- The functions of the program in X's code, printed by a program of ours; each is what the program's own is turned to. -/
import Derived.Test.YtogolfiljijhlaaProg
import Derived.Test.YtogolfiljijhlaaW0
import Derived.KernelRfl
namespace Go.Proofs.Ytogolfiljijhlaa
open Go.Xr
/- math/bits.Len -/
def r58_0 : List XLine := [⟨⟨.mv (.const (.int .i64 (.ofNat 0))), some 2, none⟩, []⟩]
def r58_1 : List XLine := [⟨⟨.mv (.slot 0), some 3, none⟩, []⟩,
  ⟨⟨.conv .u32 (.slot 3), some 4, none⟩, []⟩,
  ⟨⟨.call (.const (.func 78 [] [])) [(.slot 4)], some 5, none⟩, []⟩,
  ⟨⟨.mv (.slot 5), some 2, none⟩, []⟩]
def r58_2 : List XLine := [⟨⟨.mv (.slot 0), some 6, none⟩, []⟩,
  ⟨⟨.call (.const (.func 79 [] [])) [(.slot 6)], some 7, none⟩, []⟩,
  ⟨⟨.mv (.slot 7), some 2, none⟩, []⟩]
def xf58 : XFunc := ⟨(.seq (.region false r58_0)
  (.seq (.cond (.const (.bool false))
  (.seq (.region false r58_1)
  .ret)
  .skip)
  (.seq (.region false r58_2)
  .ret))),
  [.tmp 2]⟩
theorem xf58_ok : compFunc Try.prog Try.f58 = some xf58 := by kernel_rfl
/- cmp.Or[int] -/
def r59_0 : List XLine := [⟨⟨.mv (.const (.int .i64 (.ofNat 0))), some 2, none⟩, []⟩]
def r59_1 : List XLine := [⟨⟨.mv (.const (.int .i64 (.ofNat 0))), some 3, none⟩, []⟩]
def r59_2 : List XLine := [⟨⟨.mv (.slot 0), some 6, none⟩, []⟩,
  ⟨⟨.len .slice (.slot 6), some 7, none⟩, []⟩,
  ⟨⟨.mv (.const (.int .i64 (.ofNat 0))), some 8, none⟩, []⟩]
def r59_3 : List XLine := [⟨⟨.bin .lss 3 .num (.slot 8) (.slot 7), some 9, none⟩, []⟩]
def r59_4 : List XLine := [⟨⟨.iaddr 1 (.slot 6) (.slot 8), some 10, none⟩, []⟩,
  ⟨⟨.load false 1 (.slot 10), some 11, none⟩, []⟩,
  ⟨⟨.mv (.slot 11), some 5, none⟩, []⟩]
def r59_5 : List XLine := [⟨⟨.mv (.slot 5), some 12, none⟩, []⟩,
  ⟨⟨.mv (.slot 3), some 13, none⟩, []⟩,
  ⟨⟨.bin .neq 3 .num (.slot 12) (.slot 13), some 14, none⟩, []⟩]
def r59_6 : List XLine := [⟨⟨.mv (.slot 5), some 15, none⟩, []⟩,
  ⟨⟨.mv (.slot 15), some 2, none⟩, []⟩]
def r59_7 : List XLine := [⟨⟨.bin .add 3 .num (.slot 8) (.const (.int .i64 (.ofNat 1))), some 16, none⟩, []⟩,
  ⟨⟨.mv (.slot 16), some 8, none⟩, []⟩]
def r59_8 : List XLine := [⟨⟨.mv (.slot 3), some 17, none⟩, []⟩,
  ⟨⟨.mv (.slot 17), some 2, none⟩, []⟩]
def xf59 : XFunc := ⟨(.seq (.region false r59_0)
  (.seq (.region false r59_1)
  (.seq (.seq (.region false r59_2)
  (.block 0 (.loop (.seq (.region false r59_3)
  (.seq (.cond (.slot 9)
  .skip
  (.exit 0))
  (.seq (.block 1 (.seq (.region false r59_4)
  (.seq (.region false r59_5)
  (.cond (.slot 14)
  (.seq (.region false r59_6)
  .ret)
  .skip))))
  (.region false r59_7)))))))
  (.seq (.region false r59_8)
  .ret)))),
  [.tmp 2]⟩
theorem xf59_ok : compFunc Try.prog Try.f59 = some xf59 := by kernel_rfl
/- cmp.Compare[int] -/
def r60_0 : List XLine := [⟨⟨.mv (.const (.int .i64 (.ofNat 0))), some 4, none⟩, []⟩]
def r60_1 : List XLine := [⟨⟨.mv (.slot 0), some 7, none⟩, []⟩,
  ⟨⟨.call (.const (.func 80 [] [])) [(.slot 7)], some 8, none⟩, []⟩,
  ⟨⟨.mv (.slot 8), some 5, none⟩, []⟩]
def r60_2 : List XLine := [⟨⟨.mv (.slot 1), some 9, none⟩, []⟩,
  ⟨⟨.call (.const (.func 80 [] [])) [(.slot 9)], some 10, none⟩, []⟩,
  ⟨⟨.mv (.slot 10), some 6, none⟩, []⟩]
def r60_3 : List XLine := [⟨⟨.mv (.slot 5), some 11, none⟩, []⟩]
def r60_4 : List XLine := [⟨⟨.mv (.slot 6), some 12, none⟩, []⟩]
def r60_5 : List XLine := [⟨⟨.mv (.const (.int .i64 (.ofNat 0))), some 4, none⟩, []⟩]
def r60_6 : List XLine := [⟨⟨.mv (.const (.int .i64 (.negSucc 0))), some 4, none⟩, []⟩]
def r60_7 : List XLine := [⟨⟨.mv (.slot 6), some 13, none⟩, []⟩]
def r60_8 : List XLine := [⟨⟨.mv (.const (.int .i64 (.ofNat 1))), some 4, none⟩, []⟩]
def r60_9 : List XLine := [⟨⟨.mv (.slot 0), some 14, none⟩, []⟩,
  ⟨⟨.mv (.slot 1), some 15, none⟩, []⟩,
  ⟨⟨.bin .lss 3 .num (.slot 14) (.slot 15), some 16, none⟩, []⟩]
def r60_10 : List XLine := [⟨⟨.mv (.const (.int .i64 (.negSucc 0))), some 4, none⟩, []⟩]
def r60_11 : List XLine := [⟨⟨.mv (.slot 0), some 17, none⟩, []⟩,
  ⟨⟨.mv (.slot 1), some 18, none⟩, []⟩,
  ⟨⟨.bin .gtr 3 .num (.slot 17) (.slot 18), some 19, none⟩, []⟩]
def r60_12 : List XLine := [⟨⟨.mv (.const (.int .i64 (.ofNat 1))), some 4, none⟩, []⟩]
def r60_13 : List XLine := [⟨⟨.mv (.const (.int .i64 (.ofNat 0))), some 4, none⟩, []⟩]
def xf60 : XFunc := ⟨(.seq (.region false r60_0)
  (.seq (.region false r60_1)
  (.seq (.region false r60_2)
  (.seq (.seq (.region false r60_3)
  (.cond (.slot 11)
  (.seq (.seq (.region false r60_4)
  (.cond (.slot 12)
  (.seq (.region false r60_5)
  .ret)
  .skip))
  (.seq (.region false r60_6)
  .ret))
  .skip))
  (.seq (.seq (.region false r60_7)
  (.cond (.slot 13)
  (.seq (.region false r60_8)
  .ret)
  .skip))
  (.seq (.seq (.region false r60_9)
  (.cond (.slot 16)
  (.seq (.region false r60_10)
  .ret)
  .skip))
  (.seq (.seq (.region false r60_11)
  (.cond (.slot 19)
  (.seq (.region false r60_12)
  .ret)
  .skip))
  (.seq (.region false r60_13)
  .ret)))))))),
  [.tmp 4]⟩
theorem xf60_ok : compFunc Try.prog Try.f60 = some xf60 := by kernel_rfl
/- cmp.Compare[threshing/api.Lit] -/
def r61_0 : List XLine := [⟨⟨.mv (.const (.int .i64 (.ofNat 0))), some 4, none⟩, []⟩]
def r61_1 : List XLine := [⟨⟨.mv (.slot 0), some 7, none⟩, []⟩,
  ⟨⟨.call (.const (.func 81 [] [])) [(.slot 7)], some 8, none⟩, []⟩,
  ⟨⟨.mv (.slot 8), some 5, none⟩, []⟩]
def r61_2 : List XLine := [⟨⟨.mv (.slot 1), some 9, none⟩, []⟩,
  ⟨⟨.call (.const (.func 81 [] [])) [(.slot 9)], some 10, none⟩, []⟩,
  ⟨⟨.mv (.slot 10), some 6, none⟩, []⟩]
def r61_3 : List XLine := [⟨⟨.mv (.slot 5), some 11, none⟩, []⟩]
def r61_4 : List XLine := [⟨⟨.mv (.slot 6), some 12, none⟩, []⟩]
def r61_5 : List XLine := [⟨⟨.mv (.const (.int .i64 (.ofNat 0))), some 4, none⟩, []⟩]
def r61_6 : List XLine := [⟨⟨.mv (.const (.int .i64 (.negSucc 0))), some 4, none⟩, []⟩]
def r61_7 : List XLine := [⟨⟨.mv (.slot 6), some 13, none⟩, []⟩]
def r61_8 : List XLine := [⟨⟨.mv (.const (.int .i64 (.ofNat 1))), some 4, none⟩, []⟩]
def r61_9 : List XLine := [⟨⟨.mv (.slot 0), some 14, none⟩, []⟩,
  ⟨⟨.mv (.slot 1), some 15, none⟩, []⟩,
  ⟨⟨.bin .lss 24 .num (.slot 14) (.slot 15), some 16, none⟩, []⟩]
def r61_10 : List XLine := [⟨⟨.mv (.const (.int .i64 (.negSucc 0))), some 4, none⟩, []⟩]
def r61_11 : List XLine := [⟨⟨.mv (.slot 0), some 17, none⟩, []⟩,
  ⟨⟨.mv (.slot 1), some 18, none⟩, []⟩,
  ⟨⟨.bin .gtr 24 .num (.slot 17) (.slot 18), some 19, none⟩, []⟩]
def r61_12 : List XLine := [⟨⟨.mv (.const (.int .i64 (.ofNat 1))), some 4, none⟩, []⟩]
def r61_13 : List XLine := [⟨⟨.mv (.const (.int .i64 (.ofNat 0))), some 4, none⟩, []⟩]
def xf61 : XFunc := ⟨(.seq (.region false r61_0)
  (.seq (.region false r61_1)
  (.seq (.region false r61_2)
  (.seq (.seq (.region false r61_3)
  (.cond (.slot 11)
  (.seq (.seq (.region false r61_4)
  (.cond (.slot 12)
  (.seq (.region false r61_5)
  .ret)
  .skip))
  (.seq (.region false r61_6)
  .ret))
  .skip))
  (.seq (.seq (.region false r61_7)
  (.cond (.slot 13)
  (.seq (.region false r61_8)
  .ret)
  .skip))
  (.seq (.seq (.region false r61_9)
  (.cond (.slot 16)
  (.seq (.region false r61_10)
  .ret)
  .skip))
  (.seq (.seq (.region false r61_11)
  (.cond (.slot 19)
  (.seq (.region false r61_12)
  .ret)
  .skip))
  (.seq (.region false r61_13)
  .ret)))))))),
  [.tmp 4]⟩
theorem xf61_ok : compFunc Try.prog Try.f61 = some xf61 := by kernel_rfl
/- slices.Index[threshing/api.Clause,threshing/api.Lit] -/
def r63_0 : List XLine := [⟨⟨.mv (.const (.int .i64 (.ofNat 0))), some 4, none⟩, []⟩]
def r63_1 : List XLine := [⟨⟨.mv (.slot 0), some 6, none⟩, []⟩,
  ⟨⟨.len .slice (.slot 6), some 7, none⟩, []⟩,
  ⟨⟨.mv (.const (.int .i64 (.ofNat 0))), some 8, none⟩, []⟩]
def r63_2 : List XLine := [⟨⟨.bin .lss 3 .num (.slot 8) (.slot 7), some 9, none⟩, []⟩]
def r63_3 : List XLine := [⟨⟨.mv (.slot 8), some 10, none⟩, []⟩,
  ⟨⟨.mv (.slot 10), some 5, none⟩, []⟩]
def r63_4 : List XLine := [⟨⟨.mv (.slot 1), some 11, none⟩, []⟩,
  ⟨⟨.mv (.slot 0), some 12, none⟩, []⟩,
  ⟨⟨.mv (.slot 5), some 13, none⟩, []⟩,
  ⟨⟨.iaddr 1 (.slot 12) (.slot 13), some 14, none⟩, []⟩,
  ⟨⟨.load false 1 (.slot 14), some 15, none⟩, []⟩,
  ⟨⟨.bin .eql 24 .num (.slot 11) (.slot 15), some 16, none⟩, []⟩]
def r63_5 : List XLine := [⟨⟨.mv (.slot 5), some 17, none⟩, []⟩,
  ⟨⟨.mv (.slot 17), some 4, none⟩, []⟩]
def r63_6 : List XLine := [⟨⟨.bin .add 3 .num (.slot 8) (.const (.int .i64 (.ofNat 1))), some 18, none⟩, []⟩,
  ⟨⟨.mv (.slot 18), some 8, none⟩, []⟩]
def r63_7 : List XLine := [⟨⟨.mv (.const (.int .i64 (.negSucc 0))), some 4, none⟩, []⟩]
def xf63 : XFunc := ⟨(.seq (.region false r63_0)
  (.seq (.seq (.region false r63_1)
  (.block 0 (.loop (.seq (.region false r63_2)
  (.seq (.cond (.slot 9)
  .skip
  (.exit 0))
  (.seq (.block 1 (.seq (.region false r63_3)
  (.seq (.region false r63_4)
  (.cond (.slot 16)
  (.seq (.region false r63_5)
  .ret)
  .skip))))
  (.region false r63_6)))))))
  (.seq (.region false r63_7)
  .ret))),
  [.tmp 4]⟩
theorem xf63_ok : compFunc Try.prog Try.f63 = some xf63 := by kernel_rfl
/- (threshing/condition.set).has$1 -/
def r64_0 : List XLine := [⟨⟨.mv (.const (.bool false)), some 3, none⟩, []⟩]
def r64_1 : List XLine := [⟨⟨.load false 1 (.slot 1), some 4, none⟩, []⟩,
  ⟨⟨.mv (.slot 0), some 5, none⟩, []⟩,
  ⟨⟨.lookup .i32 (.bool false) (.slot 4) (.slot 5) false, some 6, none⟩, []⟩,
  ⟨⟨.mv (.slot 6), some 3, none⟩, []⟩]
def xf64 : XFunc := ⟨(.seq (.region false r64_0)
  (.seq (.region false r64_1)
  .ret)),
  [.tmp 3]⟩
theorem xf64_ok : compFunc Try.prog Try.f64 = some xf64 := by kernel_rfl
/- threshing/condition.kept$1 -/
def r65_0 : List XLine := [⟨⟨.load false 1 (.slot 1), some 5, none⟩, []⟩,
  ⟨⟨.call (.const (.func 10 [] [])) [(.slot 5)], some 6, none⟩, []⟩,
  ⟨⟨.len .slice (.slot 6), some 7, none⟩, []⟩,
  ⟨⟨.mv (.const (.int .i64 (.ofNat 0))), some 8, none⟩, []⟩]
def r65_1 : List XLine := [⟨⟨.bin .lss 3 .num (.slot 8) (.slot 7), some 9, none⟩, []⟩]
def r65_2 : List XLine := [⟨⟨.iaddr 3 (.slot 6) (.slot 8), some 10, none⟩, []⟩,
  ⟨⟨.load true 3 (.slot 10), some 11, none⟩, []⟩,
  ⟨⟨.alloc [(.int .i64 (.ofNat 0)), .nils, (.bool false)], some 4, none⟩, []⟩,
  ⟨⟨.store 3 (.slot 4) (.slot 11), none, none⟩, []⟩]
def r65_3 : List XLine := [⟨⟨.faddr 2 (.slot 4), some 12, none⟩, []⟩,
  ⟨⟨.load false 1 (.slot 12), some 13, none⟩, []⟩,
  ⟨⟨.un .not (.slot 13), some 14, none⟩, []⟩,
  ⟨⟨.mv (.slot 14), some 15, none⟩, []⟩,
  ⟨⟨.mv (.slot 0), some 16, some (15, true)⟩, []⟩,
  ⟨⟨.load true 3 (.slot 4), some 17, some (15, true)⟩, []⟩,
  ⟨⟨.call (.slot 16) [(.slot 17)], some 18, some (15, true)⟩, []⟩,
  ⟨⟨.un .not (.slot 18), some 19, some (15, true)⟩, []⟩,
  ⟨⟨.pick (.slot 15) (.slot 19) (.const (.bool false)), some 20, none⟩, []⟩]
def r65_4 : List XLine := [⟨⟨.bin .add 3 .num (.slot 8) (.const (.int .i64 (.ofNat 1))), some 21, none⟩, []⟩,
  ⟨⟨.mv (.slot 21), some 8, none⟩, []⟩]
def xf65 : XFunc := ⟨(.seq (.region false r65_0)
  (.block 0 (.loop (.seq (.region false r65_1)
  (.seq (.cond (.slot 9)
  .skip
  (.exit 0))
  (.seq (.block 1 (.seq (.region false r65_2)
  (.seq (.region false r65_3)
  (.cond (.slot 20)
  .ret
  .skip))))
  (.region false r65_4))))))),
  []⟩
theorem xf65_ok : compFunc Try.prog Try.f65 = some xf65 := by kernel_rfl
/- threshing/base.both$1 -/
def r66_0 : List XLine := [⟨⟨.mv (.const (.bool false)), some 3, none⟩, []⟩]
def r66_1 : List XLine := [⟨⟨.mv (.slot 0), some 4, none⟩, []⟩,
  ⟨⟨.bin .gtr 24 .num (.slot 4) (.const (.int .i32 (.ofNat 0))), some 5, none⟩, []⟩,
  ⟨⟨.mv (.slot 5), some 6, none⟩, []⟩,
  ⟨⟨.load false 1 (.slot 1), some 7, some (6, true)⟩, []⟩,
  ⟨⟨.mv (.slot 0), some 8, some (6, true)⟩, []⟩,
  ⟨⟨.un .neg (.slot 8), some 9, some (6, true)⟩, []⟩,
  ⟨⟨.call (.const (.func 41 [] [])) [(.slot 7), (.slot 9)], some 10, some (6, true)⟩, []⟩,
  ⟨⟨.pick (.slot 6) (.slot 10) (.const (.bool false)), some 11, none⟩, []⟩,
  ⟨⟨.mv (.slot 11), some 3, none⟩, []⟩]
def xf66 : XFunc := ⟨(.seq (.region false r66_0)
  (.seq (.region false r66_1)
  .ret)),
  [.tmp 3]⟩
theorem xf66_ok : compFunc Try.prog Try.f66 = some xf66 := by kernel_rfl
/- (threshing/cnf.lit).variable -/
def r67_0 : List XLine := [⟨⟨.mv (.const (.int .i64 (.ofNat 0))), some 2, none⟩, []⟩]
def r67_1 : List XLine := [⟨⟨.mv (.slot 0), some 3, none⟩, []⟩,
  ⟨⟨.bin .lss 114 .num (.slot 3) (.const (.int .i32 (.ofNat 0))), some 4, none⟩, []⟩]
def r67_2 : List XLine := [⟨⟨.mv (.slot 0), some 5, none⟩, []⟩,
  ⟨⟨.conv .i64 (.slot 5), some 6, none⟩, []⟩,
  ⟨⟨.un .neg (.slot 6), some 7, none⟩, []⟩,
  ⟨⟨.mv (.slot 7), some 2, none⟩, []⟩]
def r67_3 : List XLine := [⟨⟨.mv (.slot 0), some 8, none⟩, []⟩,
  ⟨⟨.conv .i64 (.slot 8), some 9, none⟩, []⟩,
  ⟨⟨.mv (.slot 9), some 2, none⟩, []⟩]
def xf67 : XFunc := ⟨(.seq (.region false r67_0)
  (.seq (.seq (.region false r67_1)
  (.cond (.slot 4)
  (.seq (.region false r67_2)
  .ret)
  .skip))
  (.seq (.region false r67_3)
  .ret))),
  [.tmp 2]⟩
theorem xf67_ok : compFunc Try.prog Try.f67 = some xf67 := by kernel_rfl
/- slices.AppendSeq[[]int64,int64] -/
def r68_0 : List XLine := [⟨⟨.box (.slot 0), some 2, none⟩, []⟩,
  ⟨⟨.mv (.const .nils), some 4, none⟩, []⟩]
def r68_1 : List XLine := [⟨⟨.mv (.slot 1), some 6, none⟩, []⟩]
def r68_2 : List XLine := [⟨⟨.mv (.slot 7), some 5, none⟩, []⟩]
def r68_3 : List XLine := [⟨⟨.load false 1 (.slot 2), some 8, none⟩, []⟩,
  ⟨⟨.mv (.slot 5), some 9, none⟩, []⟩,
  ⟨⟨.bslice 1 [(.int .i64 (.ofNat 0))] [(0, 1, (.slot 9))] 1, some 10, none⟩, []⟩,
  ⟨⟨.append 1 8 (.slot 8) (.slot 10), some 11, none⟩, []⟩,
  ⟨⟨.store 1 (.slot 2) (.slot 11), none, none⟩, []⟩]
def r68_4 : List XLine := [⟨⟨.load false 1 (.slot 2), some 12, none⟩, []⟩,
  ⟨⟨.mv (.slot 12), some 4, none⟩, []⟩]
def xf68 : XFunc := ⟨(.seq (.region false r68_0)
  (.seq (.seq (.region false r68_1)
  (.block 0 (.rangeFunc (.slot 6) [7] (.region false r68_2)
  (.block 1 (.region false r68_3)))))
  (.seq (.region false r68_4)
  .ret))),
  [.tmp 4]⟩
theorem xf68_ok : compFunc Try.prog Try.f68 = some xf68 := by kernel_rfl
/- slices.pdqsortOrdered[int64] -/
def r69_0 : List XLine := [⟨⟨.mv (.const (.bool true)), some 8, none⟩, []⟩]
def r69_1 : List XLine := [⟨⟨.mv (.const (.bool true)), some 9, none⟩, []⟩]
def r69_2 : List XLine := [⟨⟨.mv (.slot 2), some 19, none⟩, []⟩,
  ⟨⟨.mv (.slot 1), some 20, none⟩, []⟩,
  ⟨⟨.bin .sub 3 .num (.slot 19) (.slot 20), some 21, none⟩, []⟩,
  ⟨⟨.mv (.slot 21), some 10, none⟩, []⟩]
def r69_3 : List XLine := [⟨⟨.mv (.slot 10), some 22, none⟩, []⟩,
  ⟨⟨.bin .leq 3 .num (.slot 22) (.const (.int .i64 (.ofNat 12))), some 23, none⟩, []⟩]
def r69_4 : List XLine := [⟨⟨.mv (.slot 0), some 24, none⟩, []⟩,
  ⟨⟨.mv (.slot 1), some 25, none⟩, []⟩,
  ⟨⟨.mv (.slot 2), some 26, none⟩, []⟩,
  ⟨⟨.call (.const (.func 82 [] [])) [(.slot 24), (.slot 25), (.slot 26)], some 27, none⟩, []⟩]
def r69_5 : List XLine := [⟨⟨.mv (.slot 3), some 28, none⟩, []⟩,
  ⟨⟨.bin .eql 3 .num (.slot 28) (.const (.int .i64 (.ofNat 0))), some 29, none⟩, []⟩]
def r69_6 : List XLine := [⟨⟨.mv (.slot 0), some 30, none⟩, []⟩,
  ⟨⟨.mv (.slot 1), some 31, none⟩, []⟩,
  ⟨⟨.mv (.slot 2), some 32, none⟩, []⟩,
  ⟨⟨.call (.const (.func 83 [] [])) [(.slot 30), (.slot 31), (.slot 32)], some 33, none⟩, []⟩]
def r69_7 : List XLine := [⟨⟨.mv (.slot 8), some 34, none⟩, []⟩,
  ⟨⟨.un .not (.slot 34), some 35, none⟩, []⟩]
def r69_8 : List XLine := [⟨⟨.mv (.slot 0), some 36, none⟩, []⟩,
  ⟨⟨.mv (.slot 1), some 37, none⟩, []⟩,
  ⟨⟨.mv (.slot 2), some 38, none⟩, []⟩,
  ⟨⟨.call (.const (.func 84 [] [])) [(.slot 36), (.slot 37), (.slot 38)], some 39, none⟩, []⟩]
def r69_9 : List XLine := [⟨⟨.mv (.slot 3), some 40, none⟩, []⟩,
  ⟨⟨.bin .sub 3 .num (.slot 40) (.const (.int .i64 (.ofNat 1))), some 41, none⟩, []⟩,
  ⟨⟨.mv (.slot 41), some 3, none⟩, []⟩]
def r69_10 : List XLine := [⟨⟨.mv (.slot 0), some 43, none⟩, []⟩,
  ⟨⟨.mv (.slot 1), some 44, none⟩, []⟩,
  ⟨⟨.mv (.slot 2), some 45, none⟩, []⟩,
  ⟨⟨.call (.const (.func 85 [] [])) [(.slot 43), (.slot 44), (.slot 45)], some 46, none⟩, []⟩,
  ⟨⟨.mv (.slot 46), some 42, none⟩, []⟩,
  ⟨⟨.extract (.slot 42) 0, some 47, none⟩, []⟩,
  ⟨⟨.extract (.slot 42) 1, some 48, none⟩, []⟩,
  ⟨⟨.mv (.slot 47), some 11, none⟩, []⟩,
  ⟨⟨.mv (.slot 48), some 12, none⟩, []⟩]
def r69_11 : List XLine := [⟨⟨.mv (.slot 12), some 49, none⟩, []⟩,
  ⟨⟨.bin .eql 118 .num (.slot 49) (.const (.int .i64 (.ofNat 2))), some 50, none⟩, []⟩]
def r69_12 : List XLine := [⟨⟨.mv (.slot 0), some 51, none⟩, []⟩,
  ⟨⟨.mv (.slot 1), some 52, none⟩, []⟩,
  ⟨⟨.mv (.slot 2), some 53, none⟩, []⟩,
  ⟨⟨.call (.const (.func 86 [] [])) [(.slot 51), (.slot 52), (.slot 53)], some 54, none⟩, []⟩]
def r69_13 : List XLine := [⟨⟨.mv (.slot 2), some 55, none⟩, []⟩,
  ⟨⟨.bin .sub 3 .num (.slot 55) (.const (.int .i64 (.ofNat 1))), some 56, none⟩, []⟩,
  ⟨⟨.mv (.slot 11), some 57, none⟩, []⟩,
  ⟨⟨.mv (.slot 1), some 58, none⟩, []⟩,
  ⟨⟨.bin .sub 3 .num (.slot 57) (.slot 58), some 59, none⟩, []⟩,
  ⟨⟨.bin .sub 3 .num (.slot 56) (.slot 59), some 60, none⟩, []⟩,
  ⟨⟨.mv (.slot 60), some 11, none⟩, []⟩]
def r69_14 : List XLine := [⟨⟨.mv (.const (.int .i64 (.ofNat 1))), some 12, none⟩, []⟩]
def r69_15 : List XLine := [⟨⟨.mv (.slot 8), some 61, none⟩, []⟩,
  ⟨⟨.mv (.slot 61), some 62, none⟩, []⟩,
  ⟨⟨.mv (.slot 9), some 63, some (62, true)⟩, []⟩,
  ⟨⟨.pick (.slot 62) (.slot 63) (.const (.bool false)), some 64, none⟩, []⟩,
  ⟨⟨.mv (.slot 64), some 65, none⟩, []⟩,
  ⟨⟨.mv (.slot 12), some 66, some (65, true)⟩, []⟩,
  ⟨⟨.bin .eql 118 .num (.slot 66) (.const (.int .i64 (.ofNat 1))), some 67, some (65, true)⟩, []⟩,
  ⟨⟨.pick (.slot 65) (.slot 67) (.const (.bool false)), some 68, none⟩, []⟩]
def r69_16 : List XLine := [⟨⟨.mv (.slot 0), some 69, none⟩, []⟩,
  ⟨⟨.mv (.slot 1), some 70, none⟩, []⟩,
  ⟨⟨.mv (.slot 2), some 71, none⟩, []⟩,
  ⟨⟨.call (.const (.func 87 [] [])) [(.slot 69), (.slot 70), (.slot 71)], some 72, none⟩, []⟩]
def r69_17 : List XLine := [⟨⟨.mv (.slot 1), some 73, none⟩, []⟩,
  ⟨⟨.bin .gtr 3 .num (.slot 73) (.const (.int .i64 (.ofNat 0))), some 74, none⟩, []⟩,
  ⟨⟨.mv (.slot 74), some 75, none⟩, []⟩,
  ⟨⟨.mv (.slot 0), some 76, some (75, true)⟩, []⟩,
  ⟨⟨.mv (.slot 1), some 77, some (75, true)⟩, []⟩,
  ⟨⟨.bin .sub 3 .num (.slot 77) (.const (.int .i64 (.ofNat 1))), some 78, some (75, true)⟩, []⟩,
  ⟨⟨.iaddr 1 (.slot 76) (.slot 78), some 79, some (75, true)⟩, []⟩,
  ⟨⟨.load false 1 (.slot 79), some 80, some (75, true)⟩, []⟩,
  ⟨⟨.mv (.slot 0), some 81, some (75, true)⟩, []⟩,
  ⟨⟨.mv (.slot 11), some 82, some (75, true)⟩, []⟩,
  ⟨⟨.iaddr 1 (.slot 81) (.slot 82), some 83, some (75, true)⟩, []⟩,
  ⟨⟨.load false 1 (.slot 83), some 84, some (75, true)⟩, []⟩,
  ⟨⟨.call (.const (.func 88 [] [])) [(.slot 80), (.slot 84)], some 85, some (75, true)⟩, []⟩,
  ⟨⟨.un .not (.slot 85), some 86, some (75, true)⟩, []⟩,
  ⟨⟨.pick (.slot 75) (.slot 86) (.const (.bool false)), some 87, none⟩, []⟩]
def r69_18 : List XLine := [⟨⟨.mv (.slot 0), some 88, none⟩, []⟩,
  ⟨⟨.mv (.slot 1), some 89, none⟩, []⟩,
  ⟨⟨.mv (.slot 2), some 90, none⟩, []⟩,
  ⟨⟨.mv (.slot 11), some 91, none⟩, []⟩,
  ⟨⟨.call (.const (.func 89 [] [])) [(.slot 88), (.slot 89), (.slot 90), (.slot 91)], some 92, none⟩, []⟩,
  ⟨⟨.mv (.slot 92), some 13, none⟩, []⟩]
def r69_19 : List XLine := [⟨⟨.mv (.slot 13), some 93, none⟩, []⟩,
  ⟨⟨.mv (.slot 93), some 1, none⟩, []⟩]
def r69_20 : List XLine := [⟨⟨.mv (.slot 0), some 95, none⟩, []⟩,
  ⟨⟨.mv (.slot 1), some 96, none⟩, []⟩,
  ⟨⟨.mv (.slot 2), some 97, none⟩, []⟩,
  ⟨⟨.mv (.slot 11), some 98, none⟩, []⟩,
  ⟨⟨.call (.const (.func 90 [] [])) [(.slot 95), (.slot 96), (.slot 97), (.slot 98)], some 99, none⟩, []⟩,
  ⟨⟨.mv (.slot 99), some 94, none⟩, []⟩,
  ⟨⟨.extract (.slot 94) 0, some 100, none⟩, []⟩,
  ⟨⟨.extract (.slot 94) 1, some 101, none⟩, []⟩,
  ⟨⟨.mv (.slot 100), some 14, none⟩, []⟩,
  ⟨⟨.mv (.slot 101), some 15, none⟩, []⟩]
def r69_21 : List XLine := [⟨⟨.mv (.slot 15), some 102, none⟩, []⟩,
  ⟨⟨.mv (.slot 102), some 9, none⟩, []⟩]
def r69_22 : List XLine := [⟨⟨.mv (.slot 14), some 103, none⟩, []⟩,
  ⟨⟨.mv (.slot 1), some 104, none⟩, []⟩,
  ⟨⟨.bin .sub 3 .num (.slot 103) (.slot 104), some 105, none⟩, []⟩,
  ⟨⟨.mv (.slot 2), some 106, none⟩, []⟩,
  ⟨⟨.mv (.slot 14), some 107, none⟩, []⟩,
  ⟨⟨.bin .sub 3 .num (.slot 106) (.slot 107), some 108, none⟩, []⟩,
  ⟨⟨.mv (.slot 105), some 16, none⟩, []⟩,
  ⟨⟨.mv (.slot 108), some 17, none⟩, []⟩]
def r69_23 : List XLine := [⟨⟨.mv (.slot 10), some 109, none⟩, []⟩,
  ⟨⟨.bin .quo 3 .num (.slot 109) (.const (.int .i64 (.ofNat 8))), some 110, none⟩, []⟩,
  ⟨⟨.mv (.slot 110), some 18, none⟩, []⟩]
def r69_24 : List XLine := [⟨⟨.mv (.slot 16), some 111, none⟩, []⟩,
  ⟨⟨.mv (.slot 17), some 112, none⟩, []⟩,
  ⟨⟨.bin .lss 3 .num (.slot 111) (.slot 112), some 113, none⟩, []⟩]
def r69_25 : List XLine := [⟨⟨.mv (.slot 16), some 114, none⟩, []⟩,
  ⟨⟨.mv (.slot 18), some 115, none⟩, []⟩,
  ⟨⟨.bin .geq 3 .num (.slot 114) (.slot 115), some 116, none⟩, []⟩,
  ⟨⟨.mv (.slot 116), some 8, none⟩, []⟩]
def r69_26 : List XLine := [⟨⟨.mv (.slot 0), some 117, none⟩, []⟩,
  ⟨⟨.mv (.slot 1), some 118, none⟩, []⟩,
  ⟨⟨.mv (.slot 14), some 119, none⟩, []⟩,
  ⟨⟨.mv (.slot 3), some 120, none⟩, []⟩,
  ⟨⟨.call (.const (.func 69 [] [])) [(.slot 117), (.slot 118), (.slot 119), (.slot 120)], some 121, none⟩, []⟩]
def r69_27 : List XLine := [⟨⟨.mv (.slot 14), some 122, none⟩, []⟩,
  ⟨⟨.bin .add 3 .num (.slot 122) (.const (.int .i64 (.ofNat 1))), some 123, none⟩, []⟩,
  ⟨⟨.mv (.slot 123), some 1, none⟩, []⟩]
def r69_28 : List XLine := [⟨⟨.mv (.slot 17), some 124, none⟩, []⟩,
  ⟨⟨.mv (.slot 18), some 125, none⟩, []⟩,
  ⟨⟨.bin .geq 3 .num (.slot 124) (.slot 125), some 126, none⟩, []⟩,
  ⟨⟨.mv (.slot 126), some 8, none⟩, []⟩]
def r69_29 : List XLine := [⟨⟨.mv (.slot 0), some 127, none⟩, []⟩,
  ⟨⟨.mv (.slot 14), some 128, none⟩, []⟩,
  ⟨⟨.bin .add 3 .num (.slot 128) (.const (.int .i64 (.ofNat 1))), some 129, none⟩, []⟩,
  ⟨⟨.mv (.slot 2), some 130, none⟩, []⟩,
  ⟨⟨.mv (.slot 3), some 131, none⟩, []⟩,
  ⟨⟨.call (.const (.func 69 [] [])) [(.slot 127), (.slot 129), (.slot 130), (.slot 131)], some 132, none⟩, []⟩]
def r69_30 : List XLine := [⟨⟨.mv (.slot 14), some 133, none⟩, []⟩,
  ⟨⟨.mv (.slot 133), some 2, none⟩, []⟩]
def xf69 : XFunc := ⟨(.seq (.region false r69_0)
  (.seq (.region false r69_1)
  (.block 0 (.loop (.block 1 (.seq (.region false r69_2)
  (.seq (.seq (.region false r69_3)
  (.cond (.slot 23)
  (.seq (.region false r69_4)
  .ret)
  .skip))
  (.seq (.seq (.region false r69_5)
  (.cond (.slot 29)
  (.seq (.region false r69_6)
  .ret)
  .skip))
  (.seq (.seq (.region false r69_7)
  (.cond (.slot 35)
  (.seq (.region false r69_8)
  (.region false r69_9))
  .skip))
  (.seq (.region false r69_10)
  (.seq (.seq (.region false r69_11)
  (.cond (.slot 50)
  (.seq (.region false r69_12)
  (.seq (.region false r69_13)
  (.region false r69_14)))
  .skip))
  (.seq (.seq (.region false r69_15)
  (.cond (.slot 68)
  (.seq (.region false r69_16)
  (.cond (.slot 72)
  .ret
  .skip))
  .skip))
  (.seq (.seq (.region true r69_17)
  (.cond (.slot 87)
  (.seq (.region false r69_18)
  (.seq (.region false r69_19)
  (.exit 1)))
  .skip))
  (.seq (.region false r69_20)
  (.seq (.region false r69_21)
  (.seq (.region false r69_22)
  (.seq (.region false r69_23)
  (.seq (.region false r69_24)
  (.cond (.slot 113)
  (.seq (.region false r69_25)
  (.seq (.region false r69_26)
  (.region false r69_27)))
  (.seq (.region false r69_28)
  (.seq (.region false r69_29)
  (.region false r69_30)))))))))))))))))))))),
  []⟩
theorem xf69_ok : compFunc Try.prog Try.f69 = some xf69 := by kernel_rfl
/- slices.insertionSortCmpFunc[threshing/api.Lit] -/
def r70_0 : List XLine := [⟨⟨.mv (.slot 1), some 10, none⟩, []⟩,
  ⟨⟨.bin .add 3 .num (.slot 10) (.const (.int .i64 (.ofNat 1))), some 11, none⟩, []⟩,
  ⟨⟨.mv (.slot 11), some 8, none⟩, []⟩]
def r70_1 : List XLine := [⟨⟨.mv (.slot 8), some 12, none⟩, []⟩,
  ⟨⟨.mv (.slot 2), some 13, none⟩, []⟩,
  ⟨⟨.bin .lss 3 .num (.slot 12) (.slot 13), some 14, none⟩, []⟩]
def r70_2 : List XLine := [⟨⟨.mv (.slot 8), some 17, none⟩, []⟩,
  ⟨⟨.mv (.slot 17), some 9, none⟩, []⟩]
def r70_3 : List XLine := [⟨⟨.mv (.slot 9), some 18, none⟩, []⟩,
  ⟨⟨.mv (.slot 1), some 19, none⟩, []⟩,
  ⟨⟨.bin .gtr 3 .num (.slot 18) (.slot 19), some 20, none⟩, []⟩,
  ⟨⟨.mv (.slot 20), some 21, none⟩, []⟩,
  ⟨⟨.mv (.slot 3), some 22, some (21, true)⟩, []⟩,
  ⟨⟨.mv (.slot 0), some 23, some (21, true)⟩, []⟩,
  ⟨⟨.mv (.slot 9), some 24, some (21, true)⟩, []⟩,
  ⟨⟨.iaddr 1 (.slot 23) (.slot 24), some 25, some (21, true)⟩, []⟩,
  ⟨⟨.load false 1 (.slot 25), some 26, some (21, true)⟩, []⟩,
  ⟨⟨.mv (.slot 0), some 27, some (21, true)⟩, []⟩,
  ⟨⟨.mv (.slot 9), some 28, some (21, true)⟩, []⟩,
  ⟨⟨.bin .sub 3 .num (.slot 28) (.const (.int .i64 (.ofNat 1))), some 29, some (21, true)⟩, []⟩,
  ⟨⟨.iaddr 1 (.slot 27) (.slot 29), some 30, some (21, true)⟩, []⟩,
  ⟨⟨.load false 1 (.slot 30), some 31, some (21, true)⟩, []⟩,
  ⟨⟨.call (.slot 22) [(.slot 26), (.slot 31)], some 32, some (21, true)⟩, []⟩,
  ⟨⟨.bin .lss 3 .num (.slot 32) (.const (.int .i64 (.ofNat 0))), some 33, some (21, true)⟩, []⟩,
  ⟨⟨.pick (.slot 21) (.slot 33) (.const (.bool false)), some 34, none⟩, []⟩]
def r70_4 : List XLine := [⟨⟨.mv (.slot 0), some 37, none⟩, []⟩,
  ⟨⟨.mv (.slot 9), some 38, none⟩, []⟩,
  ⟨⟨.mv (.slot 0), some 39, none⟩, []⟩,
  ⟨⟨.mv (.slot 9), some 40, none⟩, []⟩,
  ⟨⟨.bin .sub 3 .num (.slot 40) (.const (.int .i64 (.ofNat 1))), some 41, none⟩, []⟩,
  ⟨⟨.mv (.slot 0), some 42, none⟩, []⟩,
  ⟨⟨.mv (.slot 9), some 43, none⟩, []⟩,
  ⟨⟨.bin .sub 3 .num (.slot 43) (.const (.int .i64 (.ofNat 1))), some 44, none⟩, []⟩,
  ⟨⟨.iaddr 1 (.slot 42) (.slot 44), some 45, none⟩, []⟩,
  ⟨⟨.load false 1 (.slot 45), some 46, none⟩, []⟩,
  ⟨⟨.mv (.slot 0), some 47, none⟩, []⟩,
  ⟨⟨.mv (.slot 9), some 48, none⟩, []⟩,
  ⟨⟨.iaddr 1 (.slot 47) (.slot 48), some 49, none⟩, []⟩,
  ⟨⟨.load false 1 (.slot 49), some 50, none⟩, []⟩,
  ⟨⟨.iaddr 1 (.slot 37) (.slot 38), some 51, none⟩, []⟩,
  ⟨⟨.store 1 (.slot 51) (.slot 46), none, none⟩, []⟩,
  ⟨⟨.iaddr 1 (.slot 39) (.slot 41), some 52, none⟩, []⟩,
  ⟨⟨.store 1 (.slot 52) (.slot 50), none, none⟩, []⟩]
def r70_5 : List XLine := [⟨⟨.mv (.slot 9), some 35, none⟩, []⟩,
  ⟨⟨.bin .sub 3 .num (.slot 35) (.const (.int .i64 (.ofNat 1))), some 36, none⟩, []⟩,
  ⟨⟨.mv (.slot 36), some 9, none⟩, []⟩]
def r70_6 : List XLine := [⟨⟨.mv (.slot 8), some 15, none⟩, []⟩,
  ⟨⟨.bin .add 3 .num (.slot 15) (.const (.int .i64 (.ofNat 1))), some 16, none⟩, []⟩,
  ⟨⟨.mv (.slot 16), some 8, none⟩, []⟩]
def xf70 : XFunc := ⟨(.seq (.region false r70_0)
  (.block 0 (.loop (.seq (.seq (.region false r70_1)
  (.cond (.slot 14)
  .skip
  (.exit 0)))
  (.seq (.block 1 (.seq (.region false r70_2)
  (.block 2 (.loop (.seq (.seq (.region true r70_3)
  (.cond (.slot 34)
  .skip
  (.exit 2)))
  (.seq (.block 3 (.region true r70_4))
  (.region false r70_5)))))))
  (.region false r70_6)))))),
  []⟩
theorem xf70_ok : compFunc Try.prog Try.f70 = some xf70 := by kernel_rfl
/- slices.heapSortCmpFunc[threshing/api.Lit] -/
def r71_0 : List XLine := [⟨⟨.mv (.slot 1), some 13, none⟩, []⟩,
  ⟨⟨.mv (.slot 13), some 8, none⟩, []⟩]
def r71_1 : List XLine := [⟨⟨.mv (.const (.int .i64 (.ofNat 0))), some 9, none⟩, []⟩]
def r71_2 : List XLine := [⟨⟨.mv (.slot 2), some 14, none⟩, []⟩,
  ⟨⟨.mv (.slot 1), some 15, none⟩, []⟩,
  ⟨⟨.bin .sub 3 .num (.slot 14) (.slot 15), some 16, none⟩, []⟩,
  ⟨⟨.mv (.slot 16), some 10, none⟩, []⟩]
def r71_3 : List XLine := [⟨⟨.mv (.slot 10), some 17, none⟩, []⟩,
  ⟨⟨.bin .sub 3 .num (.slot 17) (.const (.int .i64 (.ofNat 1))), some 18, none⟩, []⟩,
  ⟨⟨.bin .quo 3 .num (.slot 18) (.const (.int .i64 (.ofNat 2))), some 19, none⟩, []⟩,
  ⟨⟨.mv (.slot 19), some 11, none⟩, []⟩]
def r71_4 : List XLine := [⟨⟨.mv (.slot 11), some 20, none⟩, []⟩,
  ⟨⟨.bin .geq 3 .num (.slot 20) (.const (.int .i64 (.ofNat 0))), some 21, none⟩, []⟩]
def r71_5 : List XLine := [⟨⟨.mv (.slot 0), some 24, none⟩, []⟩,
  ⟨⟨.mv (.slot 11), some 25, none⟩, []⟩,
  ⟨⟨.mv (.slot 10), some 26, none⟩, []⟩,
  ⟨⟨.mv (.slot 8), some 27, none⟩, []⟩,
  ⟨⟨.mv (.slot 3), some 28, none⟩, []⟩,
  ⟨⟨.call (.const (.func 91 [] [])) [(.slot 24), (.slot 25), (.slot 26), (.slot 27), (.slot 28)], some 29, none⟩, []⟩]
def r71_6 : List XLine := [⟨⟨.mv (.slot 11), some 22, none⟩, []⟩,
  ⟨⟨.bin .sub 3 .num (.slot 22) (.const (.int .i64 (.ofNat 1))), some 23, none⟩, []⟩,
  ⟨⟨.mv (.slot 23), some 11, none⟩, []⟩]
def r71_7 : List XLine := [⟨⟨.mv (.slot 10), some 30, none⟩, []⟩,
  ⟨⟨.bin .sub 3 .num (.slot 30) (.const (.int .i64 (.ofNat 1))), some 31, none⟩, []⟩,
  ⟨⟨.mv (.slot 31), some 12, none⟩, []⟩]
def r71_8 : List XLine := [⟨⟨.mv (.slot 12), some 32, none⟩, []⟩,
  ⟨⟨.bin .geq 3 .num (.slot 32) (.const (.int .i64 (.ofNat 0))), some 33, none⟩, []⟩]
def r71_9 : List XLine := [⟨⟨.mv (.slot 0), some 36, none⟩, []⟩,
  ⟨⟨.mv (.slot 8), some 37, none⟩, []⟩,
  ⟨⟨.mv (.slot 0), some 38, none⟩, []⟩,
  ⟨⟨.mv (.slot 8), some 39, none⟩, []⟩,
  ⟨⟨.mv (.slot 12), some 40, none⟩, []⟩,
  ⟨⟨.bin .add 3 .num (.slot 39) (.slot 40), some 41, none⟩, []⟩,
  ⟨⟨.mv (.slot 0), some 42, none⟩, []⟩,
  ⟨⟨.mv (.slot 8), some 43, none⟩, []⟩,
  ⟨⟨.mv (.slot 12), some 44, none⟩, []⟩,
  ⟨⟨.bin .add 3 .num (.slot 43) (.slot 44), some 45, none⟩, []⟩,
  ⟨⟨.iaddr 1 (.slot 42) (.slot 45), some 46, none⟩, []⟩,
  ⟨⟨.load false 1 (.slot 46), some 47, none⟩, []⟩,
  ⟨⟨.mv (.slot 0), some 48, none⟩, []⟩,
  ⟨⟨.mv (.slot 8), some 49, none⟩, []⟩,
  ⟨⟨.iaddr 1 (.slot 48) (.slot 49), some 50, none⟩, []⟩,
  ⟨⟨.load false 1 (.slot 50), some 51, none⟩, []⟩,
  ⟨⟨.iaddr 1 (.slot 36) (.slot 37), some 52, none⟩, []⟩,
  ⟨⟨.store 1 (.slot 52) (.slot 47), none, none⟩, []⟩,
  ⟨⟨.iaddr 1 (.slot 38) (.slot 41), some 53, none⟩, []⟩,
  ⟨⟨.store 1 (.slot 53) (.slot 51), none, none⟩, []⟩]
def r71_10 : List XLine := [⟨⟨.mv (.slot 0), some 54, none⟩, []⟩,
  ⟨⟨.mv (.slot 9), some 55, none⟩, []⟩,
  ⟨⟨.mv (.slot 12), some 56, none⟩, []⟩,
  ⟨⟨.mv (.slot 8), some 57, none⟩, []⟩,
  ⟨⟨.mv (.slot 3), some 58, none⟩, []⟩,
  ⟨⟨.call (.const (.func 91 [] [])) [(.slot 54), (.slot 55), (.slot 56), (.slot 57), (.slot 58)], some 59, none⟩, []⟩]
def r71_11 : List XLine := [⟨⟨.mv (.slot 12), some 34, none⟩, []⟩,
  ⟨⟨.bin .sub 3 .num (.slot 34) (.const (.int .i64 (.ofNat 1))), some 35, none⟩, []⟩,
  ⟨⟨.mv (.slot 35), some 12, none⟩, []⟩]
def xf71 : XFunc := ⟨(.seq (.region false r71_0)
  (.seq (.region false r71_1)
  (.seq (.region false r71_2)
  (.seq (.seq (.region false r71_3)
  (.block 0 (.loop (.seq (.seq (.region false r71_4)
  (.cond (.slot 21)
  .skip
  (.exit 0)))
  (.seq (.block 1 (.region false r71_5))
  (.region false r71_6))))))
  (.seq (.region false r71_7)
  (.block 2 (.loop (.seq (.seq (.region false r71_8)
  (.cond (.slot 33)
  .skip
  (.exit 2)))
  (.seq (.block 3 (.seq (.region true r71_9)
  (.region false r71_10)))
  (.region false r71_11)))))))))),
  []⟩
theorem xf71_ok : compFunc Try.prog Try.f71 = some xf71 := by kernel_rfl
/- slices.breakPatternsCmpFunc[threshing/api.Lit] -/
def r72_0 : List XLine := [⟨⟨.mv (.slot 2), some 13, none⟩, []⟩,
  ⟨⟨.mv (.slot 1), some 14, none⟩, []⟩,
  ⟨⟨.bin .sub 3 .num (.slot 13) (.slot 14), some 15, none⟩, []⟩,
  ⟨⟨.mv (.slot 15), some 8, none⟩, []⟩]
def r72_1 : List XLine := [⟨⟨.mv (.slot 8), some 16, none⟩, []⟩,
  ⟨⟨.bin .geq 3 .num (.slot 16) (.const (.int .i64 (.ofNat 8))), some 17, none⟩, []⟩]
def r72_2 : List XLine := [⟨⟨.mv (.slot 8), some 18, none⟩, []⟩,
  ⟨⟨.conv .u64 (.slot 18), some 19, none⟩, []⟩,
  ⟨⟨.alloc [(.int .u64 (.ofNat 0))], some 9, none⟩, []⟩,
  ⟨⟨.store 1 (.slot 9) (.slot 19), none, none⟩, []⟩]
def r72_3 : List XLine := [⟨⟨.mv (.slot 8), some 20, none⟩, []⟩,
  ⟨⟨.call (.const (.func 92 [] [])) [(.slot 20)], some 21, none⟩, []⟩,
  ⟨⟨.mv (.slot 21), some 10, none⟩, []⟩]
def r72_4 : List XLine := [⟨⟨.mv (.slot 1), some 22, none⟩, []⟩,
  ⟨⟨.mv (.slot 8), some 23, none⟩, []⟩,
  ⟨⟨.bin .quo 3 .num (.slot 23) (.const (.int .i64 (.ofNat 4))), some 24, none⟩, []⟩,
  ⟨⟨.bin .mul 3 .num (.slot 24) (.const (.int .i64 (.ofNat 2))), some 25, none⟩, []⟩,
  ⟨⟨.bin .add 3 .num (.slot 22) (.slot 25), some 26, none⟩, []⟩,
  ⟨⟨.bin .sub 3 .num (.slot 26) (.const (.int .i64 (.ofNat 1))), some 27, none⟩, []⟩,
  ⟨⟨.mv (.slot 27), some 11, none⟩, []⟩]
def r72_5 : List XLine := [⟨⟨.mv (.slot 11), some 28, none⟩, []⟩,
  ⟨⟨.mv (.slot 1), some 29, none⟩, []⟩,
  ⟨⟨.mv (.slot 8), some 30, none⟩, []⟩,
  ⟨⟨.bin .quo 3 .num (.slot 30) (.const (.int .i64 (.ofNat 4))), some 31, none⟩, []⟩,
  ⟨⟨.bin .mul 3 .num (.slot 31) (.const (.int .i64 (.ofNat 2))), some 32, none⟩, []⟩,
  ⟨⟨.bin .add 3 .num (.slot 29) (.slot 32), some 33, none⟩, []⟩,
  ⟨⟨.bin .add 3 .num (.slot 33) (.const (.int .i64 (.ofNat 1))), some 34, none⟩, []⟩,
  ⟨⟨.bin .leq 3 .num (.slot 28) (.slot 34), some 35, none⟩, []⟩]
def r72_6 : List XLine := [⟨⟨.call (.const (.func 93 [] [])) [(.slot 9)], some 38, none⟩, []⟩,
  ⟨⟨.mv (.slot 10), some 39, none⟩, []⟩,
  ⟨⟨.bin .sub 108 .num (.slot 39) (.const (.int .u64 (.ofNat 1))), some 40, none⟩, []⟩,
  ⟨⟨.bin .and 108 .num (.slot 38) (.slot 40), some 41, none⟩, []⟩,
  ⟨⟨.conv .i64 (.slot 41), some 42, none⟩, []⟩,
  ⟨⟨.mv (.slot 42), some 12, none⟩, []⟩]
def r72_7 : List XLine := [⟨⟨.mv (.slot 12), some 43, none⟩, []⟩,
  ⟨⟨.mv (.slot 8), some 44, none⟩, []⟩,
  ⟨⟨.bin .geq 3 .num (.slot 43) (.slot 44), some 45, none⟩, []⟩]
def r72_8 : List XLine := [⟨⟨.mv (.slot 12), some 46, none⟩, []⟩,
  ⟨⟨.mv (.slot 8), some 47, none⟩, []⟩,
  ⟨⟨.bin .sub 3 .num (.slot 46) (.slot 47), some 48, none⟩, []⟩,
  ⟨⟨.mv (.slot 48), some 12, none⟩, []⟩]
def r72_9 : List XLine := [⟨⟨.mv (.slot 0), some 49, none⟩, []⟩,
  ⟨⟨.mv (.slot 11), some 50, none⟩, []⟩,
  ⟨⟨.mv (.slot 0), some 51, none⟩, []⟩,
  ⟨⟨.mv (.slot 1), some 52, none⟩, []⟩,
  ⟨⟨.mv (.slot 12), some 53, none⟩, []⟩,
  ⟨⟨.bin .add 3 .num (.slot 52) (.slot 53), some 54, none⟩, []⟩,
  ⟨⟨.mv (.slot 0), some 55, none⟩, []⟩,
  ⟨⟨.mv (.slot 1), some 56, none⟩, []⟩,
  ⟨⟨.mv (.slot 12), some 57, none⟩, []⟩,
  ⟨⟨.bin .add 3 .num (.slot 56) (.slot 57), some 58, none⟩, []⟩,
  ⟨⟨.iaddr 1 (.slot 55) (.slot 58), some 59, none⟩, []⟩,
  ⟨⟨.load false 1 (.slot 59), some 60, none⟩, []⟩,
  ⟨⟨.mv (.slot 0), some 61, none⟩, []⟩,
  ⟨⟨.mv (.slot 11), some 62, none⟩, []⟩,
  ⟨⟨.iaddr 1 (.slot 61) (.slot 62), some 63, none⟩, []⟩,
  ⟨⟨.load false 1 (.slot 63), some 64, none⟩, []⟩,
  ⟨⟨.iaddr 1 (.slot 49) (.slot 50), some 65, none⟩, []⟩,
  ⟨⟨.store 1 (.slot 65) (.slot 60), none, none⟩, []⟩,
  ⟨⟨.iaddr 1 (.slot 51) (.slot 54), some 66, none⟩, []⟩,
  ⟨⟨.store 1 (.slot 66) (.slot 64), none, none⟩, []⟩]
def r72_10 : List XLine := [⟨⟨.mv (.slot 11), some 36, none⟩, []⟩,
  ⟨⟨.bin .add 3 .num (.slot 36) (.const (.int .i64 (.ofNat 1))), some 37, none⟩, []⟩,
  ⟨⟨.mv (.slot 37), some 11, none⟩, []⟩]
def xf72 : XFunc := ⟨(.seq (.region false r72_0)
  (.seq (.region false r72_1)
  (.cond (.slot 17)
  (.seq (.region false r72_2)
  (.seq (.region false r72_3)
  (.seq (.region false r72_4)
  (.block 0 (.loop (.seq (.seq (.region false r72_5)
  (.cond (.slot 35)
  .skip
  (.exit 0)))
  (.seq (.block 1 (.seq (.region false r72_6)
  (.seq (.seq (.region false r72_7)
  (.cond (.slot 45)
  (.region false r72_8)
  .skip))
  (.region true r72_9))))
  (.region false r72_10))))))))
  .skip))),
  []⟩
theorem xf72_ok : compFunc Try.prog Try.f72 = some xf72 := by kernel_rfl
/- slices.choosePivotCmpFunc[threshing/api.Lit] -/
def r73_0 : List XLine := [⟨⟨.mv (.const (.int .i64 (.ofNat 0))), some 8, none⟩, []⟩,
  ⟨⟨.mv (.const (.int .i64 (.ofNat 0))), some 9, none⟩, []⟩]
def r73_1 : List XLine := [⟨⟨.mv (.slot 2), some 15, none⟩, []⟩,
  ⟨⟨.mv (.slot 1), some 16, none⟩, []⟩,
  ⟨⟨.bin .sub 3 .num (.slot 15) (.slot 16), some 17, none⟩, []⟩,
  ⟨⟨.mv (.slot 17), some 10, none⟩, []⟩]
def r73_2 : List XLine := [⟨⟨.alloc [(.int .i64 (.ofNat 0))], some 11, none⟩, []⟩]
def r73_3 : List XLine := [⟨⟨.mv (.slot 1), some 18, none⟩, []⟩,
  ⟨⟨.mv (.slot 10), some 19, none⟩, []⟩,
  ⟨⟨.bin .quo 3 .num (.slot 19) (.const (.int .i64 (.ofNat 4))), some 20, none⟩, []⟩,
  ⟨⟨.bin .mul 3 .num (.slot 20) (.const (.int .i64 (.ofNat 1))), some 21, none⟩, []⟩,
  ⟨⟨.bin .add 3 .num (.slot 18) (.slot 21), some 22, none⟩, []⟩,
  ⟨⟨.mv (.slot 22), some 12, none⟩, []⟩]
def r73_4 : List XLine := [⟨⟨.mv (.slot 1), some 23, none⟩, []⟩,
  ⟨⟨.mv (.slot 10), some 24, none⟩, []⟩,
  ⟨⟨.bin .quo 3 .num (.slot 24) (.const (.int .i64 (.ofNat 4))), some 25, none⟩, []⟩,
  ⟨⟨.bin .mul 3 .num (.slot 25) (.const (.int .i64 (.ofNat 2))), some 26, none⟩, []⟩,
  ⟨⟨.bin .add 3 .num (.slot 23) (.slot 26), some 27, none⟩, []⟩,
  ⟨⟨.mv (.slot 27), some 13, none⟩, []⟩]
def r73_5 : List XLine := [⟨⟨.mv (.slot 1), some 28, none⟩, []⟩,
  ⟨⟨.mv (.slot 10), some 29, none⟩, []⟩,
  ⟨⟨.bin .quo 3 .num (.slot 29) (.const (.int .i64 (.ofNat 4))), some 30, none⟩, []⟩,
  ⟨⟨.bin .mul 3 .num (.slot 30) (.const (.int .i64 (.ofNat 3))), some 31, none⟩, []⟩,
  ⟨⟨.bin .add 3 .num (.slot 28) (.slot 31), some 32, none⟩, []⟩,
  ⟨⟨.mv (.slot 32), some 14, none⟩, []⟩]
def r73_6 : List XLine := [⟨⟨.mv (.slot 10), some 33, none⟩, []⟩,
  ⟨⟨.bin .geq 3 .num (.slot 33) (.const (.int .i64 (.ofNat 8))), some 34, none⟩, []⟩]
def r73_7 : List XLine := [⟨⟨.mv (.slot 10), some 35, none⟩, []⟩,
  ⟨⟨.bin .geq 3 .num (.slot 35) (.const (.int .i64 (.ofNat 50))), some 36, none⟩, []⟩]
def r73_8 : List XLine := [⟨⟨.mv (.slot 0), some 37, none⟩, []⟩,
  ⟨⟨.mv (.slot 12), some 38, none⟩, []⟩,
  ⟨⟨.mv (.slot 3), some 39, none⟩, []⟩,
  ⟨⟨.call (.const (.func 94 [] [])) [(.slot 37), (.slot 38), (.slot 11), (.slot 39)], some 40, none⟩, []⟩,
  ⟨⟨.mv (.slot 40), some 12, none⟩, []⟩]
def r73_9 : List XLine := [⟨⟨.mv (.slot 0), some 41, none⟩, []⟩,
  ⟨⟨.mv (.slot 13), some 42, none⟩, []⟩,
  ⟨⟨.mv (.slot 3), some 43, none⟩, []⟩,
  ⟨⟨.call (.const (.func 94 [] [])) [(.slot 41), (.slot 42), (.slot 11), (.slot 43)], some 44, none⟩, []⟩,
  ⟨⟨.mv (.slot 44), some 13, none⟩, []⟩]
def r73_10 : List XLine := [⟨⟨.mv (.slot 0), some 45, none⟩, []⟩,
  ⟨⟨.mv (.slot 14), some 46, none⟩, []⟩,
  ⟨⟨.mv (.slot 3), some 47, none⟩, []⟩,
  ⟨⟨.call (.const (.func 94 [] [])) [(.slot 45), (.slot 46), (.slot 11), (.slot 47)], some 48, none⟩, []⟩,
  ⟨⟨.mv (.slot 48), some 14, none⟩, []⟩]
def r73_11 : List XLine := [⟨⟨.mv (.slot 0), some 49, none⟩, []⟩,
  ⟨⟨.mv (.slot 12), some 50, none⟩, []⟩,
  ⟨⟨.mv (.slot 13), some 51, none⟩, []⟩,
  ⟨⟨.mv (.slot 14), some 52, none⟩, []⟩,
  ⟨⟨.mv (.slot 3), some 53, none⟩, []⟩,
  ⟨⟨.call (.const (.func 95 [] [])) [(.slot 49), (.slot 50), (.slot 51), (.slot 52), (.slot 11), (.slot 53)], some 54, none⟩, []⟩,
  ⟨⟨.mv (.slot 54), some 13, none⟩, []⟩]
def r73_12 : List XLine := [⟨⟨.load false 1 (.slot 11), some 55, none⟩, []⟩]
def r73_13 : List XLine := [⟨⟨.bin .eql 3 .num (.slot 55) (.const (.int .i64 (.ofNat 0))), some 58, none⟩, []⟩,
  ⟨⟨.mv (.slot 58), some 57, none⟩, []⟩]
def r73_14 : List XLine := [⟨⟨.mv (.slot 13), some 59, none⟩, []⟩,
  ⟨⟨.mv (.slot 59), some 8, none⟩, []⟩,
  ⟨⟨.mv (.const (.int .i64 (.ofNat 1))), some 9, none⟩, []⟩]
def r73_15 : List XLine := [⟨⟨.bin .eql 3 .num (.slot 55) (.const (.int .i64 (.ofNat 12))), some 61, none⟩, []⟩,
  ⟨⟨.mv (.slot 61), some 60, none⟩, []⟩]
def r73_16 : List XLine := [⟨⟨.mv (.slot 13), some 62, none⟩, []⟩,
  ⟨⟨.mv (.slot 62), some 8, none⟩, []⟩,
  ⟨⟨.mv (.const (.int .i64 (.ofNat 2))), some 9, none⟩, []⟩]
def r73_17 : List XLine := [⟨⟨.mv (.slot 13), some 56, none⟩, []⟩,
  ⟨⟨.mv (.slot 56), some 8, none⟩, []⟩,
  ⟨⟨.mv (.const (.int .i64 (.ofNat 0))), some 9, none⟩, []⟩]
def xf73 : XFunc := ⟨(.seq (.region false r73_0)
  (.seq (.region false r73_1)
  (.seq (.region false r73_2)
  (.seq (.region false r73_3)
  (.seq (.region false r73_4)
  (.seq (.region false r73_5)
  (.seq (.seq (.region false r73_6)
  (.cond (.slot 34)
  (.seq (.seq (.region false r73_7)
  (.cond (.slot 36)
  (.seq (.region false r73_8)
  (.seq (.region false r73_9)
  (.region false r73_10)))
  .skip))
  (.region false r73_11))
  .skip))
  (.seq (.region false r73_12)
  (.block 0 (.seq (.region false r73_13)
  (.cond (.slot 57)
  (.seq (.region false r73_14)
  .ret)
  (.seq (.region false r73_15)
  (.cond (.slot 60)
  (.seq (.region false r73_16)
  .ret)
  (.seq (.region false r73_17)
  .ret)))))))))))))),
  [.tmp 8, .tmp 9]⟩
theorem xf73_ok : compFunc Try.prog Try.f73 = some xf73 := by kernel_rfl
/- slices.reverseRangeCmpFunc[threshing/api.Lit] -/
def r74_0 : List XLine := [⟨⟨.mv (.slot 1), some 10, none⟩, []⟩,
  ⟨⟨.mv (.slot 10), some 8, none⟩, []⟩]
def r74_1 : List XLine := [⟨⟨.mv (.slot 2), some 11, none⟩, []⟩,
  ⟨⟨.bin .sub 3 .num (.slot 11) (.const (.int .i64 (.ofNat 1))), some 12, none⟩, []⟩,
  ⟨⟨.mv (.slot 12), some 9, none⟩, []⟩]
def r74_2 : List XLine := [⟨⟨.mv (.slot 8), some 13, none⟩, []⟩,
  ⟨⟨.mv (.slot 9), some 14, none⟩, []⟩,
  ⟨⟨.bin .lss 3 .num (.slot 13) (.slot 14), some 15, none⟩, []⟩]
def r74_3 : List XLine := [⟨⟨.mv (.slot 0), some 16, none⟩, []⟩,
  ⟨⟨.mv (.slot 8), some 17, none⟩, []⟩,
  ⟨⟨.mv (.slot 0), some 18, none⟩, []⟩,
  ⟨⟨.mv (.slot 9), some 19, none⟩, []⟩,
  ⟨⟨.mv (.slot 0), some 20, none⟩, []⟩,
  ⟨⟨.mv (.slot 9), some 21, none⟩, []⟩,
  ⟨⟨.iaddr 1 (.slot 20) (.slot 21), some 22, none⟩, []⟩,
  ⟨⟨.load false 1 (.slot 22), some 23, none⟩, []⟩,
  ⟨⟨.mv (.slot 0), some 24, none⟩, []⟩,
  ⟨⟨.mv (.slot 8), some 25, none⟩, []⟩,
  ⟨⟨.iaddr 1 (.slot 24) (.slot 25), some 26, none⟩, []⟩,
  ⟨⟨.load false 1 (.slot 26), some 27, none⟩, []⟩,
  ⟨⟨.iaddr 1 (.slot 16) (.slot 17), some 28, none⟩, []⟩,
  ⟨⟨.store 1 (.slot 28) (.slot 23), none, none⟩, []⟩,
  ⟨⟨.iaddr 1 (.slot 18) (.slot 19), some 29, none⟩, []⟩,
  ⟨⟨.store 1 (.slot 29) (.slot 27), none, none⟩, []⟩]
def r74_4 : List XLine := [⟨⟨.mv (.slot 8), some 30, none⟩, []⟩,
  ⟨⟨.bin .add 3 .num (.slot 30) (.const (.int .i64 (.ofNat 1))), some 31, none⟩, []⟩,
  ⟨⟨.mv (.slot 31), some 8, none⟩, []⟩]
def r74_5 : List XLine := [⟨⟨.mv (.slot 9), some 32, none⟩, []⟩,
  ⟨⟨.bin .sub 3 .num (.slot 32) (.const (.int .i64 (.ofNat 1))), some 33, none⟩, []⟩,
  ⟨⟨.mv (.slot 33), some 9, none⟩, []⟩]
def xf74 : XFunc := ⟨(.seq (.region false r74_0)
  (.seq (.region false r74_1)
  (.block 0 (.loop (.seq (.seq (.region false r74_2)
  (.cond (.slot 15)
  .skip
  (.exit 0)))
  (.block 1 (.seq (.region true r74_3)
  (.seq (.region false r74_4)
  (.region false r74_5))))))))),
  []⟩
theorem xf74_ok : compFunc Try.prog Try.f74 = some xf74 := by kernel_rfl
/- slices.partialInsertionSortCmpFunc[threshing/api.Lit] -/
def r75_0 : List XLine := [⟨⟨.mv (.const (.bool false)), some 8, none⟩, []⟩]
def r75_1 : List XLine := [⟨⟨.mv (.slot 1), some 13, none⟩, []⟩,
  ⟨⟨.bin .add 3 .num (.slot 13) (.const (.int .i64 (.ofNat 1))), some 14, none⟩, []⟩,
  ⟨⟨.mv (.slot 14), some 9, none⟩, []⟩]
def r75_2 : List XLine := [⟨⟨.mv (.const (.int .i64 (.ofNat 0))), some 10, none⟩, []⟩]
def r75_3 : List XLine := [⟨⟨.mv (.slot 10), some 15, none⟩, []⟩,
  ⟨⟨.bin .lss 3 .num (.slot 15) (.const (.int .i64 (.ofNat 5))), some 16, none⟩, []⟩]
def r75_4 : List XLine := [⟨⟨.mv (.slot 9), some 19, none⟩, []⟩,
  ⟨⟨.mv (.slot 2), some 20, none⟩, []⟩,
  ⟨⟨.bin .lss 3 .num (.slot 19) (.slot 20), some 21, none⟩, []⟩,
  ⟨⟨.mv (.slot 21), some 22, none⟩, []⟩,
  ⟨⟨.mv (.slot 3), some 23, some (22, true)⟩, []⟩,
  ⟨⟨.mv (.slot 0), some 24, some (22, true)⟩, []⟩,
  ⟨⟨.mv (.slot 9), some 25, some (22, true)⟩, []⟩,
  ⟨⟨.iaddr 1 (.slot 24) (.slot 25), some 26, some (22, true)⟩, []⟩,
  ⟨⟨.load false 1 (.slot 26), some 27, some (22, true)⟩, []⟩,
  ⟨⟨.mv (.slot 0), some 28, some (22, true)⟩, []⟩,
  ⟨⟨.mv (.slot 9), some 29, some (22, true)⟩, []⟩,
  ⟨⟨.bin .sub 3 .num (.slot 29) (.const (.int .i64 (.ofNat 1))), some 30, some (22, true)⟩, []⟩,
  ⟨⟨.iaddr 1 (.slot 28) (.slot 30), some 31, some (22, true)⟩, []⟩,
  ⟨⟨.load false 1 (.slot 31), some 32, some (22, true)⟩, []⟩,
  ⟨⟨.call (.slot 23) [(.slot 27), (.slot 32)], some 33, some (22, true)⟩, []⟩,
  ⟨⟨.bin .lss 3 .num (.slot 33) (.const (.int .i64 (.ofNat 0))), some 34, some (22, true)⟩, []⟩,
  ⟨⟨.un .not (.slot 34), some 35, some (22, true)⟩, []⟩,
  ⟨⟨.pick (.slot 22) (.slot 35) (.const (.bool false)), some 36, none⟩, []⟩]
def r75_5 : List XLine := [⟨⟨.mv (.slot 9), some 37, none⟩, []⟩,
  ⟨⟨.bin .add 3 .num (.slot 37) (.const (.int .i64 (.ofNat 1))), some 38, none⟩, []⟩,
  ⟨⟨.mv (.slot 38), some 9, none⟩, []⟩]
def r75_6 : List XLine := [⟨⟨.mv (.slot 9), some 39, none⟩, []⟩,
  ⟨⟨.mv (.slot 2), some 40, none⟩, []⟩,
  ⟨⟨.bin .eql 3 .num (.slot 39) (.slot 40), some 41, none⟩, []⟩]
def r75_7 : List XLine := [⟨⟨.mv (.const (.bool true)), some 8, none⟩, []⟩]
def r75_8 : List XLine := [⟨⟨.mv (.slot 2), some 42, none⟩, []⟩,
  ⟨⟨.mv (.slot 1), some 43, none⟩, []⟩,
  ⟨⟨.bin .sub 3 .num (.slot 42) (.slot 43), some 44, none⟩, []⟩,
  ⟨⟨.bin .lss 3 .num (.slot 44) (.const (.int .i64 (.ofNat 50))), some 45, none⟩, []⟩]
def r75_9 : List XLine := [⟨⟨.mv (.const (.bool false)), some 8, none⟩, []⟩]
def r75_10 : List XLine := [⟨⟨.mv (.slot 0), some 46, none⟩, []⟩,
  ⟨⟨.mv (.slot 9), some 47, none⟩, []⟩,
  ⟨⟨.mv (.slot 0), some 48, none⟩, []⟩,
  ⟨⟨.mv (.slot 9), some 49, none⟩, []⟩,
  ⟨⟨.bin .sub 3 .num (.slot 49) (.const (.int .i64 (.ofNat 1))), some 50, none⟩, []⟩,
  ⟨⟨.mv (.slot 0), some 51, none⟩, []⟩,
  ⟨⟨.mv (.slot 9), some 52, none⟩, []⟩,
  ⟨⟨.bin .sub 3 .num (.slot 52) (.const (.int .i64 (.ofNat 1))), some 53, none⟩, []⟩,
  ⟨⟨.iaddr 1 (.slot 51) (.slot 53), some 54, none⟩, []⟩,
  ⟨⟨.load false 1 (.slot 54), some 55, none⟩, []⟩,
  ⟨⟨.mv (.slot 0), some 56, none⟩, []⟩,
  ⟨⟨.mv (.slot 9), some 57, none⟩, []⟩,
  ⟨⟨.iaddr 1 (.slot 56) (.slot 57), some 58, none⟩, []⟩,
  ⟨⟨.load false 1 (.slot 58), some 59, none⟩, []⟩,
  ⟨⟨.iaddr 1 (.slot 46) (.slot 47), some 60, none⟩, []⟩,
  ⟨⟨.store 1 (.slot 60) (.slot 55), none, none⟩, []⟩,
  ⟨⟨.iaddr 1 (.slot 48) (.slot 50), some 61, none⟩, []⟩,
  ⟨⟨.store 1 (.slot 61) (.slot 59), none, none⟩, []⟩]
def r75_11 : List XLine := [⟨⟨.mv (.slot 9), some 62, none⟩, []⟩,
  ⟨⟨.mv (.slot 1), some 63, none⟩, []⟩,
  ⟨⟨.bin .sub 3 .num (.slot 62) (.slot 63), some 64, none⟩, []⟩,
  ⟨⟨.bin .geq 3 .num (.slot 64) (.const (.int .i64 (.ofNat 2))), some 65, none⟩, []⟩]
def r75_12 : List XLine := [⟨⟨.mv (.slot 9), some 66, none⟩, []⟩,
  ⟨⟨.bin .sub 3 .num (.slot 66) (.const (.int .i64 (.ofNat 1))), some 67, none⟩, []⟩,
  ⟨⟨.mv (.slot 67), some 11, none⟩, []⟩]
def r75_13 : List XLine := [⟨⟨.mv (.slot 11), some 68, none⟩, []⟩,
  ⟨⟨.bin .geq 3 .num (.slot 68) (.const (.int .i64 (.ofNat 1))), some 69, none⟩, []⟩]
def r75_14 : List XLine := [⟨⟨.mv (.slot 3), some 72, none⟩, []⟩,
  ⟨⟨.mv (.slot 0), some 73, none⟩, []⟩,
  ⟨⟨.mv (.slot 11), some 74, none⟩, []⟩,
  ⟨⟨.iaddr 1 (.slot 73) (.slot 74), some 75, none⟩, []⟩,
  ⟨⟨.load false 1 (.slot 75), some 76, none⟩, []⟩,
  ⟨⟨.mv (.slot 0), some 77, none⟩, []⟩,
  ⟨⟨.mv (.slot 11), some 78, none⟩, []⟩,
  ⟨⟨.bin .sub 3 .num (.slot 78) (.const (.int .i64 (.ofNat 1))), some 79, none⟩, []⟩,
  ⟨⟨.iaddr 1 (.slot 77) (.slot 79), some 80, none⟩, []⟩,
  ⟨⟨.load false 1 (.slot 80), some 81, none⟩, []⟩,
  ⟨⟨.call (.slot 72) [(.slot 76), (.slot 81)], some 82, none⟩, []⟩,
  ⟨⟨.bin .lss 3 .num (.slot 82) (.const (.int .i64 (.ofNat 0))), some 83, none⟩, []⟩,
  ⟨⟨.un .not (.slot 83), some 84, none⟩, []⟩]
def r75_15 : List XLine := [⟨⟨.mv (.slot 0), some 85, none⟩, []⟩,
  ⟨⟨.mv (.slot 11), some 86, none⟩, []⟩,
  ⟨⟨.mv (.slot 0), some 87, none⟩, []⟩,
  ⟨⟨.mv (.slot 11), some 88, none⟩, []⟩,
  ⟨⟨.bin .sub 3 .num (.slot 88) (.const (.int .i64 (.ofNat 1))), some 89, none⟩, []⟩,
  ⟨⟨.mv (.slot 0), some 90, none⟩, []⟩,
  ⟨⟨.mv (.slot 11), some 91, none⟩, []⟩,
  ⟨⟨.bin .sub 3 .num (.slot 91) (.const (.int .i64 (.ofNat 1))), some 92, none⟩, []⟩,
  ⟨⟨.iaddr 1 (.slot 90) (.slot 92), some 93, none⟩, []⟩,
  ⟨⟨.load false 1 (.slot 93), some 94, none⟩, []⟩,
  ⟨⟨.mv (.slot 0), some 95, none⟩, []⟩,
  ⟨⟨.mv (.slot 11), some 96, none⟩, []⟩,
  ⟨⟨.iaddr 1 (.slot 95) (.slot 96), some 97, none⟩, []⟩,
  ⟨⟨.load false 1 (.slot 97), some 98, none⟩, []⟩,
  ⟨⟨.iaddr 1 (.slot 85) (.slot 86), some 99, none⟩, []⟩,
  ⟨⟨.store 1 (.slot 99) (.slot 94), none, none⟩, []⟩,
  ⟨⟨.iaddr 1 (.slot 87) (.slot 89), some 100, none⟩, []⟩,
  ⟨⟨.store 1 (.slot 100) (.slot 98), none, none⟩, []⟩]
def r75_16 : List XLine := [⟨⟨.mv (.slot 11), some 70, none⟩, []⟩,
  ⟨⟨.bin .sub 3 .num (.slot 70) (.const (.int .i64 (.ofNat 1))), some 71, none⟩, []⟩,
  ⟨⟨.mv (.slot 71), some 11, none⟩, []⟩]
def r75_17 : List XLine := [⟨⟨.mv (.slot 2), some 101, none⟩, []⟩,
  ⟨⟨.mv (.slot 9), some 102, none⟩, []⟩,
  ⟨⟨.bin .sub 3 .num (.slot 101) (.slot 102), some 103, none⟩, []⟩,
  ⟨⟨.bin .geq 3 .num (.slot 103) (.const (.int .i64 (.ofNat 2))), some 104, none⟩, []⟩]
def r75_18 : List XLine := [⟨⟨.mv (.slot 9), some 105, none⟩, []⟩,
  ⟨⟨.bin .add 3 .num (.slot 105) (.const (.int .i64 (.ofNat 1))), some 106, none⟩, []⟩,
  ⟨⟨.mv (.slot 106), some 12, none⟩, []⟩]
def r75_19 : List XLine := [⟨⟨.mv (.slot 12), some 107, none⟩, []⟩,
  ⟨⟨.mv (.slot 2), some 108, none⟩, []⟩,
  ⟨⟨.bin .lss 3 .num (.slot 107) (.slot 108), some 109, none⟩, []⟩]
def r75_20 : List XLine := [⟨⟨.mv (.slot 3), some 112, none⟩, []⟩,
  ⟨⟨.mv (.slot 0), some 113, none⟩, []⟩,
  ⟨⟨.mv (.slot 12), some 114, none⟩, []⟩,
  ⟨⟨.iaddr 1 (.slot 113) (.slot 114), some 115, none⟩, []⟩,
  ⟨⟨.load false 1 (.slot 115), some 116, none⟩, []⟩,
  ⟨⟨.mv (.slot 0), some 117, none⟩, []⟩,
  ⟨⟨.mv (.slot 12), some 118, none⟩, []⟩,
  ⟨⟨.bin .sub 3 .num (.slot 118) (.const (.int .i64 (.ofNat 1))), some 119, none⟩, []⟩,
  ⟨⟨.iaddr 1 (.slot 117) (.slot 119), some 120, none⟩, []⟩,
  ⟨⟨.load false 1 (.slot 120), some 121, none⟩, []⟩,
  ⟨⟨.call (.slot 112) [(.slot 116), (.slot 121)], some 122, none⟩, []⟩,
  ⟨⟨.bin .lss 3 .num (.slot 122) (.const (.int .i64 (.ofNat 0))), some 123, none⟩, []⟩,
  ⟨⟨.un .not (.slot 123), some 124, none⟩, []⟩]
def r75_21 : List XLine := [⟨⟨.mv (.slot 0), some 125, none⟩, []⟩,
  ⟨⟨.mv (.slot 12), some 126, none⟩, []⟩,
  ⟨⟨.mv (.slot 0), some 127, none⟩, []⟩,
  ⟨⟨.mv (.slot 12), some 128, none⟩, []⟩,
  ⟨⟨.bin .sub 3 .num (.slot 128) (.const (.int .i64 (.ofNat 1))), some 129, none⟩, []⟩,
  ⟨⟨.mv (.slot 0), some 130, none⟩, []⟩,
  ⟨⟨.mv (.slot 12), some 131, none⟩, []⟩,
  ⟨⟨.bin .sub 3 .num (.slot 131) (.const (.int .i64 (.ofNat 1))), some 132, none⟩, []⟩,
  ⟨⟨.iaddr 1 (.slot 130) (.slot 132), some 133, none⟩, []⟩,
  ⟨⟨.load false 1 (.slot 133), some 134, none⟩, []⟩,
  ⟨⟨.mv (.slot 0), some 135, none⟩, []⟩,
  ⟨⟨.mv (.slot 12), some 136, none⟩, []⟩,
  ⟨⟨.iaddr 1 (.slot 135) (.slot 136), some 137, none⟩, []⟩,
  ⟨⟨.load false 1 (.slot 137), some 138, none⟩, []⟩,
  ⟨⟨.iaddr 1 (.slot 125) (.slot 126), some 139, none⟩, []⟩,
  ⟨⟨.store 1 (.slot 139) (.slot 134), none, none⟩, []⟩,
  ⟨⟨.iaddr 1 (.slot 127) (.slot 129), some 140, none⟩, []⟩,
  ⟨⟨.store 1 (.slot 140) (.slot 138), none, none⟩, []⟩]
def r75_22 : List XLine := [⟨⟨.mv (.slot 12), some 110, none⟩, []⟩,
  ⟨⟨.bin .add 3 .num (.slot 110) (.const (.int .i64 (.ofNat 1))), some 111, none⟩, []⟩,
  ⟨⟨.mv (.slot 111), some 12, none⟩, []⟩]
def r75_23 : List XLine := [⟨⟨.mv (.slot 10), some 17, none⟩, []⟩,
  ⟨⟨.bin .add 3 .num (.slot 17) (.const (.int .i64 (.ofNat 1))), some 18, none⟩, []⟩,
  ⟨⟨.mv (.slot 18), some 10, none⟩, []⟩]
def r75_24 : List XLine := [⟨⟨.mv (.const (.bool false)), some 8, none⟩, []⟩]
def xf75 : XFunc := ⟨(.seq (.region false r75_0)
  (.seq (.region false r75_1)
  (.seq (.seq (.region false r75_2)
  (.block 0 (.loop (.seq (.seq (.region false r75_3)
  (.cond (.slot 16)
  .skip
  (.exit 0)))
  (.seq (.block 1 (.seq (.block 2 (.loop (.seq (.seq (.region true r75_4)
  (.cond (.slot 36)
  .skip
  (.exit 2)))
  (.block 3 (.region false r75_5)))))
  (.seq (.seq (.region false r75_6)
  (.cond (.slot 41)
  (.seq (.region false r75_7)
  .ret)
  .skip))
  (.seq (.seq (.region false r75_8)
  (.cond (.slot 45)
  (.seq (.region false r75_9)
  .ret)
  .skip))
  (.seq (.region true r75_10)
  (.seq (.seq (.region false r75_11)
  (.cond (.slot 65)
  (.seq (.region false r75_12)
  (.block 4 (.loop (.seq (.seq (.region false r75_13)
  (.cond (.slot 69)
  .skip
  (.exit 4)))
  (.seq (.block 5 (.seq (.seq (.region true r75_14)
  (.cond (.slot 84)
  (.exit 4)
  .skip))
  (.region true r75_15)))
  (.region false r75_16))))))
  .skip))
  (.seq (.region false r75_17)
  (.cond (.slot 104)
  (.seq (.region false r75_18)
  (.block 6 (.loop (.seq (.seq (.region false r75_19)
  (.cond (.slot 109)
  .skip
  (.exit 6)))
  (.seq (.block 7 (.seq (.seq (.region true r75_20)
  (.cond (.slot 124)
  (.exit 6)
  .skip))
  (.region true r75_21)))
  (.region false r75_22))))))
  .skip))))))))
  (.region false r75_23))))))
  (.seq (.region false r75_24)
  .ret)))),
  [.tmp 8]⟩
theorem xf75_ok : compFunc Try.prog Try.f75 = some xf75 := by kernel_rfl
/- slices.partitionEqualCmpFunc[threshing/api.Lit] -/
def r76_0 : List XLine := [⟨⟨.mv (.const (.int .i64 (.ofNat 0))), some 10, none⟩, []⟩]
def r76_1 : List XLine := [⟨⟨.mv (.slot 0), some 13, none⟩, []⟩,
  ⟨⟨.mv (.slot 1), some 14, none⟩, []⟩,
  ⟨⟨.mv (.slot 0), some 15, none⟩, []⟩,
  ⟨⟨.mv (.slot 3), some 16, none⟩, []⟩,
  ⟨⟨.mv (.slot 0), some 17, none⟩, []⟩,
  ⟨⟨.mv (.slot 3), some 18, none⟩, []⟩,
  ⟨⟨.iaddr 1 (.slot 17) (.slot 18), some 19, none⟩, []⟩,
  ⟨⟨.load false 1 (.slot 19), some 20, none⟩, []⟩,
  ⟨⟨.mv (.slot 0), some 21, none⟩, []⟩,
  ⟨⟨.mv (.slot 1), some 22, none⟩, []⟩,
  ⟨⟨.iaddr 1 (.slot 21) (.slot 22), some 23, none⟩, []⟩,
  ⟨⟨.load false 1 (.slot 23), some 24, none⟩, []⟩,
  ⟨⟨.iaddr 1 (.slot 13) (.slot 14), some 25, none⟩, []⟩,
  ⟨⟨.store 1 (.slot 25) (.slot 20), none, none⟩, []⟩,
  ⟨⟨.iaddr 1 (.slot 15) (.slot 16), some 26, none⟩, []⟩,
  ⟨⟨.store 1 (.slot 26) (.slot 24), none, none⟩, []⟩]
def r76_2 : List XLine := [⟨⟨.mv (.slot 1), some 27, none⟩, []⟩,
  ⟨⟨.bin .add 3 .num (.slot 27) (.const (.int .i64 (.ofNat 1))), some 28, none⟩, []⟩,
  ⟨⟨.mv (.slot 2), some 29, none⟩, []⟩,
  ⟨⟨.bin .sub 3 .num (.slot 29) (.const (.int .i64 (.ofNat 1))), some 30, none⟩, []⟩,
  ⟨⟨.mv (.slot 28), some 11, none⟩, []⟩,
  ⟨⟨.mv (.slot 30), some 12, none⟩, []⟩]
def r76_3 : List XLine := [⟨⟨.mv (.slot 11), some 31, none⟩, []⟩,
  ⟨⟨.mv (.slot 12), some 32, none⟩, []⟩,
  ⟨⟨.bin .leq 3 .num (.slot 31) (.slot 32), some 33, none⟩, []⟩,
  ⟨⟨.mv (.slot 33), some 34, none⟩, []⟩,
  ⟨⟨.mv (.slot 4), some 35, some (34, true)⟩, []⟩,
  ⟨⟨.mv (.slot 0), some 36, some (34, true)⟩, []⟩,
  ⟨⟨.mv (.slot 1), some 37, some (34, true)⟩, []⟩,
  ⟨⟨.iaddr 1 (.slot 36) (.slot 37), some 38, some (34, true)⟩, []⟩,
  ⟨⟨.load false 1 (.slot 38), some 39, some (34, true)⟩, []⟩,
  ⟨⟨.mv (.slot 0), some 40, some (34, true)⟩, []⟩,
  ⟨⟨.mv (.slot 11), some 41, some (34, true)⟩, []⟩,
  ⟨⟨.iaddr 1 (.slot 40) (.slot 41), some 42, some (34, true)⟩, []⟩,
  ⟨⟨.load false 1 (.slot 42), some 43, some (34, true)⟩, []⟩,
  ⟨⟨.call (.slot 35) [(.slot 39), (.slot 43)], some 44, some (34, true)⟩, []⟩,
  ⟨⟨.bin .lss 3 .num (.slot 44) (.const (.int .i64 (.ofNat 0))), some 45, some (34, true)⟩, []⟩,
  ⟨⟨.un .not (.slot 45), some 46, some (34, true)⟩, []⟩,
  ⟨⟨.pick (.slot 34) (.slot 46) (.const (.bool false)), some 47, none⟩, []⟩]
def r76_4 : List XLine := [⟨⟨.mv (.slot 11), some 48, none⟩, []⟩,
  ⟨⟨.bin .add 3 .num (.slot 48) (.const (.int .i64 (.ofNat 1))), some 49, none⟩, []⟩,
  ⟨⟨.mv (.slot 49), some 11, none⟩, []⟩]
def r76_5 : List XLine := [⟨⟨.mv (.slot 11), some 50, none⟩, []⟩,
  ⟨⟨.mv (.slot 12), some 51, none⟩, []⟩,
  ⟨⟨.bin .leq 3 .num (.slot 50) (.slot 51), some 52, none⟩, []⟩,
  ⟨⟨.mv (.slot 52), some 53, none⟩, []⟩,
  ⟨⟨.mv (.slot 4), some 54, some (53, true)⟩, []⟩,
  ⟨⟨.mv (.slot 0), some 55, some (53, true)⟩, []⟩,
  ⟨⟨.mv (.slot 1), some 56, some (53, true)⟩, []⟩,
  ⟨⟨.iaddr 1 (.slot 55) (.slot 56), some 57, some (53, true)⟩, []⟩,
  ⟨⟨.load false 1 (.slot 57), some 58, some (53, true)⟩, []⟩,
  ⟨⟨.mv (.slot 0), some 59, some (53, true)⟩, []⟩,
  ⟨⟨.mv (.slot 12), some 60, some (53, true)⟩, []⟩,
  ⟨⟨.iaddr 1 (.slot 59) (.slot 60), some 61, some (53, true)⟩, []⟩,
  ⟨⟨.load false 1 (.slot 61), some 62, some (53, true)⟩, []⟩,
  ⟨⟨.call (.slot 54) [(.slot 58), (.slot 62)], some 63, some (53, true)⟩, []⟩,
  ⟨⟨.bin .lss 3 .num (.slot 63) (.const (.int .i64 (.ofNat 0))), some 64, some (53, true)⟩, []⟩,
  ⟨⟨.pick (.slot 53) (.slot 64) (.const (.bool false)), some 65, none⟩, []⟩]
def r76_6 : List XLine := [⟨⟨.mv (.slot 12), some 66, none⟩, []⟩,
  ⟨⟨.bin .sub 3 .num (.slot 66) (.const (.int .i64 (.ofNat 1))), some 67, none⟩, []⟩,
  ⟨⟨.mv (.slot 67), some 12, none⟩, []⟩]
def r76_7 : List XLine := [⟨⟨.mv (.slot 11), some 68, none⟩, []⟩,
  ⟨⟨.mv (.slot 12), some 69, none⟩, []⟩,
  ⟨⟨.bin .gtr 3 .num (.slot 68) (.slot 69), some 70, none⟩, []⟩]
def r76_8 : List XLine := [⟨⟨.mv (.slot 0), some 71, none⟩, []⟩,
  ⟨⟨.mv (.slot 11), some 72, none⟩, []⟩,
  ⟨⟨.mv (.slot 0), some 73, none⟩, []⟩,
  ⟨⟨.mv (.slot 12), some 74, none⟩, []⟩,
  ⟨⟨.mv (.slot 0), some 75, none⟩, []⟩,
  ⟨⟨.mv (.slot 12), some 76, none⟩, []⟩,
  ⟨⟨.iaddr 1 (.slot 75) (.slot 76), some 77, none⟩, []⟩,
  ⟨⟨.load false 1 (.slot 77), some 78, none⟩, []⟩,
  ⟨⟨.mv (.slot 0), some 79, none⟩, []⟩,
  ⟨⟨.mv (.slot 11), some 80, none⟩, []⟩,
  ⟨⟨.iaddr 1 (.slot 79) (.slot 80), some 81, none⟩, []⟩,
  ⟨⟨.load false 1 (.slot 81), some 82, none⟩, []⟩,
  ⟨⟨.iaddr 1 (.slot 71) (.slot 72), some 83, none⟩, []⟩,
  ⟨⟨.store 1 (.slot 83) (.slot 78), none, none⟩, []⟩,
  ⟨⟨.iaddr 1 (.slot 73) (.slot 74), some 84, none⟩, []⟩,
  ⟨⟨.store 1 (.slot 84) (.slot 82), none, none⟩, []⟩]
def r76_9 : List XLine := [⟨⟨.mv (.slot 11), some 85, none⟩, []⟩,
  ⟨⟨.bin .add 3 .num (.slot 85) (.const (.int .i64 (.ofNat 1))), some 86, none⟩, []⟩,
  ⟨⟨.mv (.slot 86), some 11, none⟩, []⟩]
def r76_10 : List XLine := [⟨⟨.mv (.slot 12), some 87, none⟩, []⟩,
  ⟨⟨.bin .sub 3 .num (.slot 87) (.const (.int .i64 (.ofNat 1))), some 88, none⟩, []⟩,
  ⟨⟨.mv (.slot 88), some 12, none⟩, []⟩]
def r76_11 : List XLine := [⟨⟨.mv (.slot 11), some 89, none⟩, []⟩,
  ⟨⟨.mv (.slot 89), some 10, none⟩, []⟩]
def xf76 : XFunc := ⟨(.seq (.region false r76_0)
  (.seq (.region true r76_1)
  (.seq (.region false r76_2)
  (.seq (.block 0 (.loop (.block 1 (.seq (.block 2 (.loop (.seq (.seq (.region true r76_3)
  (.cond (.slot 47)
  .skip
  (.exit 2)))
  (.block 3 (.region false r76_4)))))
  (.seq (.block 4 (.loop (.seq (.seq (.region true r76_5)
  (.cond (.slot 65)
  .skip
  (.exit 4)))
  (.block 5 (.region false r76_6)))))
  (.seq (.seq (.region false r76_7)
  (.cond (.slot 70)
  (.exit 0)
  .skip))
  (.seq (.region true r76_8)
  (.seq (.region false r76_9)
  (.region false r76_10)))))))))
  (.seq (.region false r76_11)
  .ret))))),
  [.tmp 10]⟩
theorem xf76_ok : compFunc Try.prog Try.f76 = some xf76 := by kernel_rfl
/- slices.partitionCmpFunc[threshing/api.Lit] -/
def r77_0 : List XLine := [⟨⟨.mv (.const (.int .i64 (.ofNat 0))), some 10, none⟩, []⟩,
  ⟨⟨.mv (.const (.bool false)), some 11, none⟩, []⟩]
def r77_1 : List XLine := [⟨⟨.mv (.slot 0), some 14, none⟩, []⟩,
  ⟨⟨.mv (.slot 1), some 15, none⟩, []⟩,
  ⟨⟨.mv (.slot 0), some 16, none⟩, []⟩,
  ⟨⟨.mv (.slot 3), some 17, none⟩, []⟩,
  ⟨⟨.mv (.slot 0), some 18, none⟩, []⟩,
  ⟨⟨.mv (.slot 3), some 19, none⟩, []⟩,
  ⟨⟨.iaddr 1 (.slot 18) (.slot 19), some 20, none⟩, []⟩,
  ⟨⟨.load false 1 (.slot 20), some 21, none⟩, []⟩,
  ⟨⟨.mv (.slot 0), some 22, none⟩, []⟩,
  ⟨⟨.mv (.slot 1), some 23, none⟩, []⟩,
  ⟨⟨.iaddr 1 (.slot 22) (.slot 23), some 24, none⟩, []⟩,
  ⟨⟨.load false 1 (.slot 24), some 25, none⟩, []⟩,
  ⟨⟨.iaddr 1 (.slot 14) (.slot 15), some 26, none⟩, []⟩,
  ⟨⟨.store 1 (.slot 26) (.slot 21), none, none⟩, []⟩,
  ⟨⟨.iaddr 1 (.slot 16) (.slot 17), some 27, none⟩, []⟩,
  ⟨⟨.store 1 (.slot 27) (.slot 25), none, none⟩, []⟩]
def r77_2 : List XLine := [⟨⟨.mv (.slot 1), some 28, none⟩, []⟩,
  ⟨⟨.bin .add 3 .num (.slot 28) (.const (.int .i64 (.ofNat 1))), some 29, none⟩, []⟩,
  ⟨⟨.mv (.slot 2), some 30, none⟩, []⟩,
  ⟨⟨.bin .sub 3 .num (.slot 30) (.const (.int .i64 (.ofNat 1))), some 31, none⟩, []⟩,
  ⟨⟨.mv (.slot 29), some 12, none⟩, []⟩,
  ⟨⟨.mv (.slot 31), some 13, none⟩, []⟩]
def r77_3 : List XLine := [⟨⟨.mv (.slot 12), some 32, none⟩, []⟩,
  ⟨⟨.mv (.slot 13), some 33, none⟩, []⟩,
  ⟨⟨.bin .leq 3 .num (.slot 32) (.slot 33), some 34, none⟩, []⟩,
  ⟨⟨.mv (.slot 34), some 35, none⟩, []⟩,
  ⟨⟨.mv (.slot 4), some 36, some (35, true)⟩, []⟩,
  ⟨⟨.mv (.slot 0), some 37, some (35, true)⟩, []⟩,
  ⟨⟨.mv (.slot 12), some 38, some (35, true)⟩, []⟩,
  ⟨⟨.iaddr 1 (.slot 37) (.slot 38), some 39, some (35, true)⟩, []⟩,
  ⟨⟨.load false 1 (.slot 39), some 40, some (35, true)⟩, []⟩,
  ⟨⟨.mv (.slot 0), some 41, some (35, true)⟩, []⟩,
  ⟨⟨.mv (.slot 1), some 42, some (35, true)⟩, []⟩,
  ⟨⟨.iaddr 1 (.slot 41) (.slot 42), some 43, some (35, true)⟩, []⟩,
  ⟨⟨.load false 1 (.slot 43), some 44, some (35, true)⟩, []⟩,
  ⟨⟨.call (.slot 36) [(.slot 40), (.slot 44)], some 45, some (35, true)⟩, []⟩,
  ⟨⟨.bin .lss 3 .num (.slot 45) (.const (.int .i64 (.ofNat 0))), some 46, some (35, true)⟩, []⟩,
  ⟨⟨.pick (.slot 35) (.slot 46) (.const (.bool false)), some 47, none⟩, []⟩]
def r77_4 : List XLine := [⟨⟨.mv (.slot 12), some 48, none⟩, []⟩,
  ⟨⟨.bin .add 3 .num (.slot 48) (.const (.int .i64 (.ofNat 1))), some 49, none⟩, []⟩,
  ⟨⟨.mv (.slot 49), some 12, none⟩, []⟩]
def r77_5 : List XLine := [⟨⟨.mv (.slot 12), some 50, none⟩, []⟩,
  ⟨⟨.mv (.slot 13), some 51, none⟩, []⟩,
  ⟨⟨.bin .leq 3 .num (.slot 50) (.slot 51), some 52, none⟩, []⟩,
  ⟨⟨.mv (.slot 52), some 53, none⟩, []⟩,
  ⟨⟨.mv (.slot 4), some 54, some (53, true)⟩, []⟩,
  ⟨⟨.mv (.slot 0), some 55, some (53, true)⟩, []⟩,
  ⟨⟨.mv (.slot 13), some 56, some (53, true)⟩, []⟩,
  ⟨⟨.iaddr 1 (.slot 55) (.slot 56), some 57, some (53, true)⟩, []⟩,
  ⟨⟨.load false 1 (.slot 57), some 58, some (53, true)⟩, []⟩,
  ⟨⟨.mv (.slot 0), some 59, some (53, true)⟩, []⟩,
  ⟨⟨.mv (.slot 1), some 60, some (53, true)⟩, []⟩,
  ⟨⟨.iaddr 1 (.slot 59) (.slot 60), some 61, some (53, true)⟩, []⟩,
  ⟨⟨.load false 1 (.slot 61), some 62, some (53, true)⟩, []⟩,
  ⟨⟨.call (.slot 54) [(.slot 58), (.slot 62)], some 63, some (53, true)⟩, []⟩,
  ⟨⟨.bin .lss 3 .num (.slot 63) (.const (.int .i64 (.ofNat 0))), some 64, some (53, true)⟩, []⟩,
  ⟨⟨.un .not (.slot 64), some 65, some (53, true)⟩, []⟩,
  ⟨⟨.pick (.slot 53) (.slot 65) (.const (.bool false)), some 66, none⟩, []⟩]
def r77_6 : List XLine := [⟨⟨.mv (.slot 13), some 67, none⟩, []⟩,
  ⟨⟨.bin .sub 3 .num (.slot 67) (.const (.int .i64 (.ofNat 1))), some 68, none⟩, []⟩,
  ⟨⟨.mv (.slot 68), some 13, none⟩, []⟩]
def r77_7 : List XLine := [⟨⟨.mv (.slot 12), some 69, none⟩, []⟩,
  ⟨⟨.mv (.slot 13), some 70, none⟩, []⟩,
  ⟨⟨.bin .gtr 3 .num (.slot 69) (.slot 70), some 71, none⟩, []⟩]
def r77_8 : List XLine := [⟨⟨.mv (.slot 0), some 72, none⟩, []⟩,
  ⟨⟨.mv (.slot 13), some 73, none⟩, []⟩,
  ⟨⟨.mv (.slot 0), some 74, none⟩, []⟩,
  ⟨⟨.mv (.slot 1), some 75, none⟩, []⟩,
  ⟨⟨.mv (.slot 0), some 76, none⟩, []⟩,
  ⟨⟨.mv (.slot 1), some 77, none⟩, []⟩,
  ⟨⟨.iaddr 1 (.slot 76) (.slot 77), some 78, none⟩, []⟩,
  ⟨⟨.load false 1 (.slot 78), some 79, none⟩, []⟩,
  ⟨⟨.mv (.slot 0), some 80, none⟩, []⟩,
  ⟨⟨.mv (.slot 13), some 81, none⟩, []⟩,
  ⟨⟨.iaddr 1 (.slot 80) (.slot 81), some 82, none⟩, []⟩,
  ⟨⟨.load false 1 (.slot 82), some 83, none⟩, []⟩,
  ⟨⟨.iaddr 1 (.slot 72) (.slot 73), some 84, none⟩, []⟩,
  ⟨⟨.store 1 (.slot 84) (.slot 79), none, none⟩, []⟩,
  ⟨⟨.iaddr 1 (.slot 74) (.slot 75), some 85, none⟩, []⟩,
  ⟨⟨.store 1 (.slot 85) (.slot 83), none, none⟩, []⟩]
def r77_9 : List XLine := [⟨⟨.mv (.slot 13), some 86, none⟩, []⟩,
  ⟨⟨.mv (.slot 86), some 10, none⟩, []⟩,
  ⟨⟨.mv (.const (.bool true)), some 11, none⟩, []⟩]
def r77_10 : List XLine := [⟨⟨.mv (.slot 0), some 87, none⟩, []⟩,
  ⟨⟨.mv (.slot 12), some 88, none⟩, []⟩,
  ⟨⟨.mv (.slot 0), some 89, none⟩, []⟩,
  ⟨⟨.mv (.slot 13), some 90, none⟩, []⟩,
  ⟨⟨.mv (.slot 0), some 91, none⟩, []⟩,
  ⟨⟨.mv (.slot 13), some 92, none⟩, []⟩,
  ⟨⟨.iaddr 1 (.slot 91) (.slot 92), some 93, none⟩, []⟩,
  ⟨⟨.load false 1 (.slot 93), some 94, none⟩, []⟩,
  ⟨⟨.mv (.slot 0), some 95, none⟩, []⟩,
  ⟨⟨.mv (.slot 12), some 96, none⟩, []⟩,
  ⟨⟨.iaddr 1 (.slot 95) (.slot 96), some 97, none⟩, []⟩,
  ⟨⟨.load false 1 (.slot 97), some 98, none⟩, []⟩,
  ⟨⟨.iaddr 1 (.slot 87) (.slot 88), some 99, none⟩, []⟩,
  ⟨⟨.store 1 (.slot 99) (.slot 94), none, none⟩, []⟩,
  ⟨⟨.iaddr 1 (.slot 89) (.slot 90), some 100, none⟩, []⟩,
  ⟨⟨.store 1 (.slot 100) (.slot 98), none, none⟩, []⟩]
def r77_11 : List XLine := [⟨⟨.mv (.slot 12), some 101, none⟩, []⟩,
  ⟨⟨.bin .add 3 .num (.slot 101) (.const (.int .i64 (.ofNat 1))), some 102, none⟩, []⟩,
  ⟨⟨.mv (.slot 102), some 12, none⟩, []⟩]
def r77_12 : List XLine := [⟨⟨.mv (.slot 13), some 103, none⟩, []⟩,
  ⟨⟨.bin .sub 3 .num (.slot 103) (.const (.int .i64 (.ofNat 1))), some 104, none⟩, []⟩,
  ⟨⟨.mv (.slot 104), some 13, none⟩, []⟩]
def r77_13 : List XLine := [⟨⟨.mv (.slot 12), some 105, none⟩, []⟩,
  ⟨⟨.mv (.slot 13), some 106, none⟩, []⟩,
  ⟨⟨.bin .leq 3 .num (.slot 105) (.slot 106), some 107, none⟩, []⟩,
  ⟨⟨.mv (.slot 107), some 108, none⟩, []⟩,
  ⟨⟨.mv (.slot 4), some 109, some (108, true)⟩, []⟩,
  ⟨⟨.mv (.slot 0), some 110, some (108, true)⟩, []⟩,
  ⟨⟨.mv (.slot 12), some 111, some (108, true)⟩, []⟩,
  ⟨⟨.iaddr 1 (.slot 110) (.slot 111), some 112, some (108, true)⟩, []⟩,
  ⟨⟨.load false 1 (.slot 112), some 113, some (108, true)⟩, []⟩,
  ⟨⟨.mv (.slot 0), some 114, some (108, true)⟩, []⟩,
  ⟨⟨.mv (.slot 1), some 115, some (108, true)⟩, []⟩,
  ⟨⟨.iaddr 1 (.slot 114) (.slot 115), some 116, some (108, true)⟩, []⟩,
  ⟨⟨.load false 1 (.slot 116), some 117, some (108, true)⟩, []⟩,
  ⟨⟨.call (.slot 109) [(.slot 113), (.slot 117)], some 118, some (108, true)⟩, []⟩,
  ⟨⟨.bin .lss 3 .num (.slot 118) (.const (.int .i64 (.ofNat 0))), some 119, some (108, true)⟩, []⟩,
  ⟨⟨.pick (.slot 108) (.slot 119) (.const (.bool false)), some 120, none⟩, []⟩]
def r77_14 : List XLine := [⟨⟨.mv (.slot 12), some 121, none⟩, []⟩,
  ⟨⟨.bin .add 3 .num (.slot 121) (.const (.int .i64 (.ofNat 1))), some 122, none⟩, []⟩,
  ⟨⟨.mv (.slot 122), some 12, none⟩, []⟩]
def r77_15 : List XLine := [⟨⟨.mv (.slot 12), some 123, none⟩, []⟩,
  ⟨⟨.mv (.slot 13), some 124, none⟩, []⟩,
  ⟨⟨.bin .leq 3 .num (.slot 123) (.slot 124), some 125, none⟩, []⟩,
  ⟨⟨.mv (.slot 125), some 126, none⟩, []⟩,
  ⟨⟨.mv (.slot 4), some 127, some (126, true)⟩, []⟩,
  ⟨⟨.mv (.slot 0), some 128, some (126, true)⟩, []⟩,
  ⟨⟨.mv (.slot 13), some 129, some (126, true)⟩, []⟩,
  ⟨⟨.iaddr 1 (.slot 128) (.slot 129), some 130, some (126, true)⟩, []⟩,
  ⟨⟨.load false 1 (.slot 130), some 131, some (126, true)⟩, []⟩,
  ⟨⟨.mv (.slot 0), some 132, some (126, true)⟩, []⟩,
  ⟨⟨.mv (.slot 1), some 133, some (126, true)⟩, []⟩,
  ⟨⟨.iaddr 1 (.slot 132) (.slot 133), some 134, some (126, true)⟩, []⟩,
  ⟨⟨.load false 1 (.slot 134), some 135, some (126, true)⟩, []⟩,
  ⟨⟨.call (.slot 127) [(.slot 131), (.slot 135)], some 136, some (126, true)⟩, []⟩,
  ⟨⟨.bin .lss 3 .num (.slot 136) (.const (.int .i64 (.ofNat 0))), some 137, some (126, true)⟩, []⟩,
  ⟨⟨.un .not (.slot 137), some 138, some (126, true)⟩, []⟩,
  ⟨⟨.pick (.slot 126) (.slot 138) (.const (.bool false)), some 139, none⟩, []⟩]
def r77_16 : List XLine := [⟨⟨.mv (.slot 13), some 140, none⟩, []⟩,
  ⟨⟨.bin .sub 3 .num (.slot 140) (.const (.int .i64 (.ofNat 1))), some 141, none⟩, []⟩,
  ⟨⟨.mv (.slot 141), some 13, none⟩, []⟩]
def r77_17 : List XLine := [⟨⟨.mv (.slot 12), some 142, none⟩, []⟩,
  ⟨⟨.mv (.slot 13), some 143, none⟩, []⟩,
  ⟨⟨.bin .gtr 3 .num (.slot 142) (.slot 143), some 144, none⟩, []⟩]
def r77_18 : List XLine := [⟨⟨.mv (.slot 0), some 145, none⟩, []⟩,
  ⟨⟨.mv (.slot 12), some 146, none⟩, []⟩,
  ⟨⟨.mv (.slot 0), some 147, none⟩, []⟩,
  ⟨⟨.mv (.slot 13), some 148, none⟩, []⟩,
  ⟨⟨.mv (.slot 0), some 149, none⟩, []⟩,
  ⟨⟨.mv (.slot 13), some 150, none⟩, []⟩,
  ⟨⟨.iaddr 1 (.slot 149) (.slot 150), some 151, none⟩, []⟩,
  ⟨⟨.load false 1 (.slot 151), some 152, none⟩, []⟩,
  ⟨⟨.mv (.slot 0), some 153, none⟩, []⟩,
  ⟨⟨.mv (.slot 12), some 154, none⟩, []⟩,
  ⟨⟨.iaddr 1 (.slot 153) (.slot 154), some 155, none⟩, []⟩,
  ⟨⟨.load false 1 (.slot 155), some 156, none⟩, []⟩,
  ⟨⟨.iaddr 1 (.slot 145) (.slot 146), some 157, none⟩, []⟩,
  ⟨⟨.store 1 (.slot 157) (.slot 152), none, none⟩, []⟩,
  ⟨⟨.iaddr 1 (.slot 147) (.slot 148), some 158, none⟩, []⟩,
  ⟨⟨.store 1 (.slot 158) (.slot 156), none, none⟩, []⟩]
def r77_19 : List XLine := [⟨⟨.mv (.slot 12), some 159, none⟩, []⟩,
  ⟨⟨.bin .add 3 .num (.slot 159) (.const (.int .i64 (.ofNat 1))), some 160, none⟩, []⟩,
  ⟨⟨.mv (.slot 160), some 12, none⟩, []⟩]
def r77_20 : List XLine := [⟨⟨.mv (.slot 13), some 161, none⟩, []⟩,
  ⟨⟨.bin .sub 3 .num (.slot 161) (.const (.int .i64 (.ofNat 1))), some 162, none⟩, []⟩,
  ⟨⟨.mv (.slot 162), some 13, none⟩, []⟩]
def r77_21 : List XLine := [⟨⟨.mv (.slot 0), some 163, none⟩, []⟩,
  ⟨⟨.mv (.slot 13), some 164, none⟩, []⟩,
  ⟨⟨.mv (.slot 0), some 165, none⟩, []⟩,
  ⟨⟨.mv (.slot 1), some 166, none⟩, []⟩,
  ⟨⟨.mv (.slot 0), some 167, none⟩, []⟩,
  ⟨⟨.mv (.slot 1), some 168, none⟩, []⟩,
  ⟨⟨.iaddr 1 (.slot 167) (.slot 168), some 169, none⟩, []⟩,
  ⟨⟨.load false 1 (.slot 169), some 170, none⟩, []⟩,
  ⟨⟨.mv (.slot 0), some 171, none⟩, []⟩,
  ⟨⟨.mv (.slot 13), some 172, none⟩, []⟩,
  ⟨⟨.iaddr 1 (.slot 171) (.slot 172), some 173, none⟩, []⟩,
  ⟨⟨.load false 1 (.slot 173), some 174, none⟩, []⟩,
  ⟨⟨.iaddr 1 (.slot 163) (.slot 164), some 175, none⟩, []⟩,
  ⟨⟨.store 1 (.slot 175) (.slot 170), none, none⟩, []⟩,
  ⟨⟨.iaddr 1 (.slot 165) (.slot 166), some 176, none⟩, []⟩,
  ⟨⟨.store 1 (.slot 176) (.slot 174), none, none⟩, []⟩]
def r77_22 : List XLine := [⟨⟨.mv (.slot 13), some 177, none⟩, []⟩,
  ⟨⟨.mv (.slot 177), some 10, none⟩, []⟩,
  ⟨⟨.mv (.const (.bool false)), some 11, none⟩, []⟩]
def xf77 : XFunc := ⟨(.seq (.region false r77_0)
  (.seq (.region true r77_1)
  (.seq (.region false r77_2)
  (.seq (.block 0 (.loop (.seq (.seq (.region true r77_3)
  (.cond (.slot 47)
  .skip
  (.exit 0)))
  (.block 1 (.region false r77_4)))))
  (.seq (.block 2 (.loop (.seq (.seq (.region true r77_5)
  (.cond (.slot 66)
  .skip
  (.exit 2)))
  (.block 3 (.region false r77_6)))))
  (.seq (.seq (.region false r77_7)
  (.cond (.slot 71)
  (.seq (.region true r77_8)
  (.seq (.region false r77_9)
  .ret))
  .skip))
  (.seq (.region true r77_10)
  (.seq (.region false r77_11)
  (.seq (.region false r77_12)
  (.seq (.block 4 (.loop (.block 5 (.seq (.block 6 (.loop (.seq (.seq (.region true r77_13)
  (.cond (.slot 120)
  .skip
  (.exit 6)))
  (.block 7 (.region false r77_14)))))
  (.seq (.block 8 (.loop (.seq (.seq (.region true r77_15)
  (.cond (.slot 139)
  .skip
  (.exit 8)))
  (.block 9 (.region false r77_16)))))
  (.seq (.seq (.region false r77_17)
  (.cond (.slot 144)
  (.exit 4)
  .skip))
  (.seq (.region true r77_18)
  (.seq (.region false r77_19)
  (.region false r77_20)))))))))
  (.seq (.region true r77_21)
  (.seq (.region false r77_22)
  .ret)))))))))))),
  [.tmp 10, .tmp 11]⟩
theorem xf77_ok : compFunc Try.prog Try.f77 = some xf77 := by kernel_rfl
end Go.Proofs.Ytogolfiljijhlaa

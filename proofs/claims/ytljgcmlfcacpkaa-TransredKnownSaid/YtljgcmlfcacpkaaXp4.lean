/- The functions of the program in X's code, printed by a program of ours; each is what the program's own is turned to. -/
import Derived.Test.YtljgcmlfcacpkaaProg
import Derived.Test.YtljgcmlfcacpkaaXc
import Derived.KernelRfl
namespace Go.Proofs.Ytljgcmlfcacpkaa
open Go.Xr
/-- cmp.isNaN[int64] -/
def xf89 : XFunc := ⟨(.seq (.region false [⟨⟨.mv (.const (.bool false)), some 2, none⟩, []⟩])
  (.seq (.region false [⟨⟨.mv (.slot 0), some 3, none⟩, []⟩,
    ⟨⟨.mv (.slot 0), some 4, none⟩, []⟩,
    ⟨⟨.bin .neq 2 .num (.slot 3) (.slot 4), some 5, none⟩, []⟩,
    ⟨⟨.mv (.slot 5), some 2, none⟩, []⟩])
  .ret)),
  [.tmp 2]⟩
theorem xf89_ok : compFunc Try.prog Try.f89 = some xf89 := by kernel_rfl
/-- slices.siftDownCmpFunc[threshing/api.Lit] -/
def xf90 : XFunc := ⟨(.seq (.region false [⟨⟨.mv (.slot 1), some 12, none⟩, []⟩,
    ⟨⟨.mv (.slot 12), some 10, none⟩, []⟩])
  (.block 0 (.loop (.block 1 (.seq (.region false [⟨⟨.mv (.slot 10), some 13, none⟩, []⟩,
     ⟨⟨.bin .mul 3 .num (.const (.int .i64 (.ofNat 2))) (.slot 13), some 14, none⟩, []⟩,
     ⟨⟨.bin .add 3 .num (.slot 14) (.const (.int .i64 (.ofNat 1))), some 15, none⟩, []⟩,
     ⟨⟨.mv (.slot 15), some 11, none⟩, []⟩])
   (.seq (.seq (.region false [⟨⟨.mv (.slot 11), some 16, none⟩, []⟩,
     ⟨⟨.mv (.slot 2), some 17, none⟩, []⟩,
     ⟨⟨.bin .geq 3 .num (.slot 16) (.slot 17), some 18, none⟩, []⟩])
   (.cond (.slot 18)
    (.exit 0)
    .skip))
   (.seq (.seq (.region true [⟨⟨.mv (.slot 11), some 19, none⟩, []⟩,
     ⟨⟨.bin .add 3 .num (.slot 19) (.const (.int .i64 (.ofNat 1))), some 20, none⟩, []⟩,
     ⟨⟨.mv (.slot 2), some 21, none⟩, []⟩,
     ⟨⟨.bin .lss 3 .num (.slot 20) (.slot 21), some 22, none⟩, []⟩,
     ⟨⟨.mv (.slot 22), some 23, none⟩, []⟩,
     ⟨⟨.mv (.slot 4), some 24, some (23, true)⟩, []⟩,
     ⟨⟨.mv (.slot 0), some 25, some (23, true)⟩, []⟩,
     ⟨⟨.mv (.slot 3), some 26, some (23, true)⟩, []⟩,
     ⟨⟨.mv (.slot 11), some 27, some (23, true)⟩, []⟩,
     ⟨⟨.bin .add 3 .num (.slot 26) (.slot 27), some 28, some (23, true)⟩, []⟩,
     ⟨⟨.iaddr 1 (.slot 25) (.slot 28), some 29, some (23, true)⟩, []⟩,
     ⟨⟨.load false 1 (.slot 29), some 30, some (23, true)⟩, []⟩,
     ⟨⟨.mv (.slot 0), some 31, some (23, true)⟩, []⟩,
     ⟨⟨.mv (.slot 3), some 32, some (23, true)⟩, []⟩,
     ⟨⟨.mv (.slot 11), some 33, some (23, true)⟩, []⟩,
     ⟨⟨.bin .add 3 .num (.slot 32) (.slot 33), some 34, some (23, true)⟩, []⟩,
     ⟨⟨.bin .add 3 .num (.slot 34) (.const (.int .i64 (.ofNat 1))), some 35, some (23, true)⟩, []⟩,
     ⟨⟨.iaddr 1 (.slot 31) (.slot 35), some 36, some (23, true)⟩, []⟩,
     ⟨⟨.load false 1 (.slot 36), some 37, some (23, true)⟩, []⟩,
     ⟨⟨.call (.slot 24) [(.slot 30), (.slot 37)], some 38, some (23, true)⟩, []⟩,
     ⟨⟨.bin .lss 3 .num (.slot 38) (.const (.int .i64 (.ofNat 0))), some 39, some (23, true)⟩, []⟩,
     ⟨⟨.pick (.slot 23) (.slot 39) (.const (.bool false)), some 40, none⟩, []⟩])
   (.cond (.slot 40)
    (.region false [⟨⟨.mv (.slot 11), some 41, none⟩, []⟩,
      ⟨⟨.bin .add 3 .num (.slot 41) (.const (.int .i64 (.ofNat 1))), some 42, none⟩, []⟩,
      ⟨⟨.mv (.slot 42), some 11, none⟩, []⟩])
    .skip))
   (.seq (.seq (.region true [⟨⟨.mv (.slot 4), some 43, none⟩, []⟩,
     ⟨⟨.mv (.slot 0), some 44, none⟩, []⟩,
     ⟨⟨.mv (.slot 3), some 45, none⟩, []⟩,
     ⟨⟨.mv (.slot 10), some 46, none⟩, []⟩,
     ⟨⟨.bin .add 3 .num (.slot 45) (.slot 46), some 47, none⟩, []⟩,
     ⟨⟨.iaddr 1 (.slot 44) (.slot 47), some 48, none⟩, []⟩,
     ⟨⟨.load false 1 (.slot 48), some 49, none⟩, []⟩,
     ⟨⟨.mv (.slot 0), some 50, none⟩, []⟩,
     ⟨⟨.mv (.slot 3), some 51, none⟩, []⟩,
     ⟨⟨.mv (.slot 11), some 52, none⟩, []⟩,
     ⟨⟨.bin .add 3 .num (.slot 51) (.slot 52), some 53, none⟩, []⟩,
     ⟨⟨.iaddr 1 (.slot 50) (.slot 53), some 54, none⟩, []⟩,
     ⟨⟨.load false 1 (.slot 54), some 55, none⟩, []⟩,
     ⟨⟨.call (.slot 43) [(.slot 49), (.slot 55)], some 56, none⟩, []⟩,
     ⟨⟨.bin .lss 3 .num (.slot 56) (.const (.int .i64 (.ofNat 0))), some 57, none⟩, []⟩,
     ⟨⟨.un .not (.slot 57), some 58, none⟩, []⟩])
   (.cond (.slot 58)
    .ret
    .skip))
   (.seq (.region true [⟨⟨.mv (.slot 0), some 59, none⟩, []⟩,
     ⟨⟨.mv (.slot 3), some 60, none⟩, []⟩,
     ⟨⟨.mv (.slot 10), some 61, none⟩, []⟩,
     ⟨⟨.bin .add 3 .num (.slot 60) (.slot 61), some 62, none⟩, []⟩,
     ⟨⟨.mv (.slot 0), some 63, none⟩, []⟩,
     ⟨⟨.mv (.slot 3), some 64, none⟩, []⟩,
     ⟨⟨.mv (.slot 11), some 65, none⟩, []⟩,
     ⟨⟨.bin .add 3 .num (.slot 64) (.slot 65), some 66, none⟩, []⟩,
     ⟨⟨.mv (.slot 0), some 67, none⟩, []⟩,
     ⟨⟨.mv (.slot 3), some 68, none⟩, []⟩,
     ⟨⟨.mv (.slot 11), some 69, none⟩, []⟩,
     ⟨⟨.bin .add 3 .num (.slot 68) (.slot 69), some 70, none⟩, []⟩,
     ⟨⟨.iaddr 1 (.slot 67) (.slot 70), some 71, none⟩, []⟩,
     ⟨⟨.load false 1 (.slot 71), some 72, none⟩, []⟩,
     ⟨⟨.mv (.slot 0), some 73, none⟩, []⟩,
     ⟨⟨.mv (.slot 3), some 74, none⟩, []⟩,
     ⟨⟨.mv (.slot 10), some 75, none⟩, []⟩,
     ⟨⟨.bin .add 3 .num (.slot 74) (.slot 75), some 76, none⟩, []⟩,
     ⟨⟨.iaddr 1 (.slot 73) (.slot 76), some 77, none⟩, []⟩,
     ⟨⟨.load false 1 (.slot 77), some 78, none⟩, []⟩,
     ⟨⟨.iaddr 1 (.slot 59) (.slot 62), some 79, none⟩, []⟩,
     ⟨⟨.store 1 (.slot 79) (.slot 72), none, none⟩, []⟩,
     ⟨⟨.iaddr 1 (.slot 63) (.slot 66), some 80, none⟩, []⟩,
     ⟨⟨.store 1 (.slot 80) (.slot 78), none, none⟩, []⟩])
   (.region false [⟨⟨.mv (.slot 11), some 81, none⟩, []⟩,
     ⟨⟨.mv (.slot 81), some 10, none⟩, []⟩])))))))))),
  []⟩
theorem xf90_ok : compFunc Try.prog Try.f90 = some xf90 := by kernel_rfl
/-- slices.medianAdjacentCmpFunc[threshing/api.Lit] -/
def xf91 : XFunc := ⟨(.seq (.region false [⟨⟨.mv (.const (.int .i64 (.ofNat 0))), some 8, none⟩, []⟩])
  (.seq (.region false [⟨⟨.mv (.slot 0), some 9, none⟩, []⟩,
    ⟨⟨.mv (.slot 1), some 10, none⟩, []⟩,
    ⟨⟨.bin .sub 3 .num (.slot 10) (.const (.int .i64 (.ofNat 1))), some 11, none⟩, []⟩,
    ⟨⟨.mv (.slot 1), some 12, none⟩, []⟩,
    ⟨⟨.mv (.slot 1), some 13, none⟩, []⟩,
    ⟨⟨.bin .add 3 .num (.slot 13) (.const (.int .i64 (.ofNat 1))), some 14, none⟩, []⟩,
    ⟨⟨.mv (.slot 2), some 15, none⟩, []⟩,
    ⟨⟨.mv (.slot 3), some 16, none⟩, []⟩,
    ⟨⟨.call (.const (.func 92 [] [])) [(.slot 9), (.slot 11), (.slot 12), (.slot 14), (.slot 15), (.slot 16)], some 17, none⟩, []⟩,
    ⟨⟨.mv (.slot 17), some 8, none⟩, []⟩])
  .ret)),
  [.tmp 8]⟩
theorem xf91_ok : compFunc Try.prog Try.f91 = some xf91 := by kernel_rfl
/-- slices.medianCmpFunc[threshing/api.Lit] -/
def xf92 : XFunc := ⟨(.seq (.region false [⟨⟨.mv (.const (.int .i64 (.ofNat 0))), some 12, none⟩, []⟩])
  (.seq (.region false [⟨⟨.mv (.slot 0), some 14, none⟩, []⟩,
    ⟨⟨.mv (.slot 1), some 15, none⟩, []⟩,
    ⟨⟨.mv (.slot 2), some 16, none⟩, []⟩,
    ⟨⟨.mv (.slot 4), some 17, none⟩, []⟩,
    ⟨⟨.mv (.slot 5), some 18, none⟩, []⟩,
    ⟨⟨.call (.const (.func 94 [] [])) [(.slot 14), (.slot 15), (.slot 16), (.slot 17), (.slot 18)], some 19, none⟩, []⟩,
    ⟨⟨.mv (.slot 19), some 13, none⟩, []⟩,
    ⟨⟨.extract (.slot 13) 0, some 20, none⟩, []⟩,
    ⟨⟨.extract (.slot 13) 1, some 21, none⟩, []⟩,
    ⟨⟨.mv (.slot 20), some 1, none⟩, []⟩,
    ⟨⟨.mv (.slot 21), some 2, none⟩, []⟩])
  (.seq (.region false [⟨⟨.mv (.slot 0), some 23, none⟩, []⟩,
    ⟨⟨.mv (.slot 2), some 24, none⟩, []⟩,
    ⟨⟨.mv (.slot 3), some 25, none⟩, []⟩,
    ⟨⟨.mv (.slot 4), some 26, none⟩, []⟩,
    ⟨⟨.mv (.slot 5), some 27, none⟩, []⟩,
    ⟨⟨.call (.const (.func 94 [] [])) [(.slot 23), (.slot 24), (.slot 25), (.slot 26), (.slot 27)], some 28, none⟩, []⟩,
    ⟨⟨.mv (.slot 28), some 22, none⟩, []⟩,
    ⟨⟨.extract (.slot 22) 0, some 29, none⟩, []⟩,
    ⟨⟨.extract (.slot 22) 1, some 30, none⟩, []⟩,
    ⟨⟨.mv (.slot 29), some 2, none⟩, []⟩,
    ⟨⟨.mv (.slot 30), some 3, none⟩, []⟩])
  (.seq (.region false [⟨⟨.mv (.slot 0), some 32, none⟩, []⟩,
    ⟨⟨.mv (.slot 1), some 33, none⟩, []⟩,
    ⟨⟨.mv (.slot 2), some 34, none⟩, []⟩,
    ⟨⟨.mv (.slot 4), some 35, none⟩, []⟩,
    ⟨⟨.mv (.slot 5), some 36, none⟩, []⟩,
    ⟨⟨.call (.const (.func 94 [] [])) [(.slot 32), (.slot 33), (.slot 34), (.slot 35), (.slot 36)], some 37, none⟩, []⟩,
    ⟨⟨.mv (.slot 37), some 31, none⟩, []⟩,
    ⟨⟨.extract (.slot 31) 0, some 38, none⟩, []⟩,
    ⟨⟨.extract (.slot 31) 1, some 39, none⟩, []⟩,
    ⟨⟨.mv (.slot 38), some 1, none⟩, []⟩,
    ⟨⟨.mv (.slot 39), some 2, none⟩, []⟩])
  (.seq (.region false [⟨⟨.mv (.slot 2), some 40, none⟩, []⟩,
    ⟨⟨.mv (.slot 40), some 12, none⟩, []⟩])
  .ret))))),
  [.tmp 12]⟩
theorem xf92_ok : compFunc Try.prog Try.f92 = some xf92 := by kernel_rfl
/-- slices.order2Ordered[int64] -/
def xf93 : XFunc := ⟨(.seq (.region false [⟨⟨.mv (.const (.int .i64 (.ofNat 0))), some 8, none⟩, []⟩,
    ⟨⟨.mv (.const (.int .i64 (.ofNat 0))), some 9, none⟩, []⟩])
  (.seq (.seq (.region true [⟨⟨.mv (.slot 0), some 10, none⟩, []⟩,
    ⟨⟨.mv (.slot 2), some 11, none⟩, []⟩,
    ⟨⟨.iaddr 1 (.slot 10) (.slot 11), some 12, none⟩, []⟩,
    ⟨⟨.load false 1 (.slot 12), some 13, none⟩, []⟩,
    ⟨⟨.mv (.slot 0), some 14, none⟩, []⟩,
    ⟨⟨.mv (.slot 1), some 15, none⟩, []⟩,
    ⟨⟨.iaddr 1 (.slot 14) (.slot 15), some 16, none⟩, []⟩,
    ⟨⟨.load false 1 (.slot 16), some 17, none⟩, []⟩,
    ⟨⟨.call (.const (.func 69 [] [])) [(.slot 13), (.slot 17)], some 18, none⟩, []⟩])
  (.cond (.slot 18)
   (.seq (.region false [⟨⟨.mv (.slot 3), some 19, none⟩, []⟩,
     ⟨⟨.nilCheck (.slot 19), some 20, none⟩, []⟩,
     ⟨⟨.load false 1 (.slot 20), some 21, none⟩, []⟩,
     ⟨⟨.bin .add 3 .num (.slot 21) (.const (.int .i64 (.ofNat 1))), some 22, none⟩, []⟩,
     ⟨⟨.nilCheck (.slot 19), some 23, none⟩, []⟩,
     ⟨⟨.store 1 (.slot 23) (.slot 22), none, none⟩, []⟩])
   (.seq (.region false [⟨⟨.mv (.slot 2), some 24, none⟩, []⟩,
     ⟨⟨.mv (.slot 1), some 25, none⟩, []⟩,
     ⟨⟨.mv (.slot 24), some 8, none⟩, []⟩,
     ⟨⟨.mv (.slot 25), some 9, none⟩, []⟩])
   .ret))
   .skip))
  (.seq (.region false [⟨⟨.mv (.slot 1), some 26, none⟩, []⟩,
    ⟨⟨.mv (.slot 2), some 27, none⟩, []⟩,
    ⟨⟨.mv (.slot 26), some 8, none⟩, []⟩,
    ⟨⟨.mv (.slot 27), some 9, none⟩, []⟩])
  .ret))),
  [.tmp 8, .tmp 9]⟩
theorem xf93_ok : compFunc Try.prog Try.f93 = some xf93 := by kernel_rfl
/-- slices.order2CmpFunc[threshing/api.Lit] -/
def xf94 : XFunc := ⟨(.seq (.region false [⟨⟨.mv (.const (.int .i64 (.ofNat 0))), some 10, none⟩, []⟩,
    ⟨⟨.mv (.const (.int .i64 (.ofNat 0))), some 11, none⟩, []⟩])
  (.seq (.seq (.region true [⟨⟨.mv (.slot 4), some 12, none⟩, []⟩,
    ⟨⟨.mv (.slot 0), some 13, none⟩, []⟩,
    ⟨⟨.mv (.slot 2), some 14, none⟩, []⟩,
    ⟨⟨.iaddr 1 (.slot 13) (.slot 14), some 15, none⟩, []⟩,
    ⟨⟨.load false 1 (.slot 15), some 16, none⟩, []⟩,
    ⟨⟨.mv (.slot 0), some 17, none⟩, []⟩,
    ⟨⟨.mv (.slot 1), some 18, none⟩, []⟩,
    ⟨⟨.iaddr 1 (.slot 17) (.slot 18), some 19, none⟩, []⟩,
    ⟨⟨.load false 1 (.slot 19), some 20, none⟩, []⟩,
    ⟨⟨.call (.slot 12) [(.slot 16), (.slot 20)], some 21, none⟩, []⟩,
    ⟨⟨.bin .lss 3 .num (.slot 21) (.const (.int .i64 (.ofNat 0))), some 22, none⟩, []⟩])
  (.cond (.slot 22)
   (.seq (.region false [⟨⟨.mv (.slot 3), some 23, none⟩, []⟩,
     ⟨⟨.nilCheck (.slot 23), some 24, none⟩, []⟩,
     ⟨⟨.load false 1 (.slot 24), some 25, none⟩, []⟩,
     ⟨⟨.bin .add 3 .num (.slot 25) (.const (.int .i64 (.ofNat 1))), some 26, none⟩, []⟩,
     ⟨⟨.nilCheck (.slot 23), some 27, none⟩, []⟩,
     ⟨⟨.store 1 (.slot 27) (.slot 26), none, none⟩, []⟩])
   (.seq (.region false [⟨⟨.mv (.slot 2), some 28, none⟩, []⟩,
     ⟨⟨.mv (.slot 1), some 29, none⟩, []⟩,
     ⟨⟨.mv (.slot 28), some 10, none⟩, []⟩,
     ⟨⟨.mv (.slot 29), some 11, none⟩, []⟩])
   .ret))
   .skip))
  (.seq (.region false [⟨⟨.mv (.slot 1), some 30, none⟩, []⟩,
    ⟨⟨.mv (.slot 2), some 31, none⟩, []⟩,
    ⟨⟨.mv (.slot 30), some 10, none⟩, []⟩,
    ⟨⟨.mv (.slot 31), some 11, none⟩, []⟩])
  .ret))),
  [.tmp 10, .tmp 11]⟩
theorem xf94_ok : compFunc Try.prog Try.f94 = some xf94 := by kernel_rfl
end Go.Proofs.Ytljgcmlfcacpkaa

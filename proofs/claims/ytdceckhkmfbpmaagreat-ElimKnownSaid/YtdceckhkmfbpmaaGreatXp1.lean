/- The functions of the program in X's code, printed by a program of ours; each is what the program's own is turned to. -/
import Derived.Test.YtdceckhkmfbpmaaGreatProg
import Derived.Test.YtdceckhkmfbpmaaGreatXc
import Derived.KernelRfl
namespace Go.Proofs.YtdceckhkmfbpmaaGreat
open Go.Xr
/-- slices.Sorted[int64] -/
def xf20 : XFunc := ⟨(.seq (.region false [⟨⟨.mv (.const .nils), some 2, none⟩, []⟩])
  (.seq (.region false [⟨⟨.mv (.slot 0), some 4, none⟩, []⟩,
    ⟨⟨.call (.const (.func 26 [] [])) [(.slot 4)], some 5, none⟩, []⟩,
    ⟨⟨.mv (.slot 5), some 3, none⟩, []⟩])
  (.seq (.region false [⟨⟨.mv (.slot 3), some 6, none⟩, []⟩,
    ⟨⟨.call (.const (.func 43 [] [])) [(.slot 6)], some 7, none⟩, []⟩])
  (.seq (.region false [⟨⟨.mv (.slot 3), some 8, none⟩, []⟩,
    ⟨⟨.mv (.slot 8), some 2, none⟩, []⟩])
  .ret)))),
  [.tmp 2]⟩
theorem xf20_ok : compFunc Tryz.prog Tryz.f20 = some xf20 := by kernel_rfl
/-- maps.Keys[map[int64]threshing/api.Entry,int64,threshing/api.Entry] -/
def xf21 : XFunc := ⟨(.seq (.region false [⟨⟨.box (.slot 0), some 1, none⟩, []⟩,
    ⟨⟨.mv (.const .nilf), some 2, none⟩, []⟩])
  (.seq (.region false [⟨⟨.mkfunc 47 [] [(.slot 1)], some 3, none⟩, []⟩,
    ⟨⟨.mv (.slot 3), some 2, none⟩, []⟩])
  .ret)),
  [.tmp 2]⟩
theorem xf21_ok : compFunc Tryz.prog Tryz.f21 = some xf21 := by kernel_rfl
/-- threshing/base.entry -/
def xf22 : XFunc := ⟨(.seq (.region false [⟨⟨.box (.slot 0), some 1, none⟩, []⟩,
    ⟨⟨.alloc [(.int .i64 (.ofNat 0)), .nils, (.bool false)], some 2, none⟩, []⟩])
  (.seq (.region false [⟨⟨.faddr 1 (.slot 1), some 3, none⟩, []⟩,
    ⟨⟨.load false 1 (.slot 3), some 4, none⟩, []⟩,
    ⟨⟨.call (.const (.func 24 [] [])) [(.slot 4)], some 5, none⟩, []⟩,
    ⟨⟨.faddr 1 (.slot 1), some 6, none⟩, []⟩,
    ⟨⟨.store 1 (.slot 6) (.slot 5), none, none⟩, []⟩])
  (.seq (.region false [⟨⟨.load true 3 (.slot 1), some 7, none⟩, []⟩,
    ⟨⟨.store 3 (.slot 2) (.slot 7), none, none⟩, []⟩])
  .ret))),
  [.cell 2 true 3]⟩
theorem xf22_ok : compFunc Tryz.prog Tryz.f22 = some xf22 := by kernel_rfl
/-- slices.Clone[[]threshing/api.Witness,threshing/api.Witness] -/
def xf23 : XFunc := ⟨(.seq (.region false [⟨⟨.mv (.const .nils), some 2, none⟩, []⟩])
  (.seq (.seq (.region false [⟨⟨.mv (.slot 0), some 3, none⟩, []⟩,
    ⟨⟨.bin .eql 32 .slice (.slot 3) (.const .nils), some 4, none⟩, []⟩])
  (.cond (.slot 4)
   (.seq (.region false [⟨⟨.mv (.const .nils), some 2, none⟩, []⟩])
   .ret)
   .skip))
  (.seq (.region false [⟨⟨.bslice 2 [] [] 0, some 5, none⟩, []⟩,
    ⟨⟨.mv (.slot 0), some 6, none⟩, []⟩,
    ⟨⟨.append 2 48 (.slot 5) (.slot 6), some 7, none⟩, []⟩,
    ⟨⟨.mv (.slot 7), some 2, none⟩, []⟩])
  .ret))),
  [.tmp 2]⟩
theorem xf23_ok : compFunc Tryz.prog Tryz.f23 = some xf23 := by kernel_rfl
/-- slices.Clone[threshing/api.Clause,threshing/api.Lit] -/
def xf24 : XFunc := ⟨(.seq (.region false [⟨⟨.mv (.const .nils), some 2, none⟩, []⟩])
  (.seq (.seq (.region false [⟨⟨.mv (.slot 0), some 3, none⟩, []⟩,
    ⟨⟨.bin .eql 26 .slice (.slot 3) (.const .nils), some 4, none⟩, []⟩])
  (.cond (.slot 4)
   (.seq (.region false [⟨⟨.mv (.const .nils), some 2, none⟩, []⟩])
   .ret)
   .skip))
  (.seq (.region false [⟨⟨.bslice 1 [] [] 0, some 5, none⟩, []⟩,
    ⟨⟨.mv (.slot 0), some 6, none⟩, []⟩,
    ⟨⟨.append 1 4 (.slot 5) (.slot 6), some 7, none⟩, []⟩,
    ⟨⟨.mv (.slot 7), some 2, none⟩, []⟩])
  .ret))),
  [.tmp 2]⟩
theorem xf24_ok : compFunc Tryz.prog Tryz.f24 = some xf24 := by kernel_rfl
/-- slices.Min[[]int64,int64] -/
def xf25 : XFunc := ⟨(.seq (.region false [⟨⟨.mv (.const (.int .i64 (.ofNat 0))), some 2, none⟩, []⟩])
  (.seq (.seq (.region false [⟨⟨.mv (.slot 0), some 5, none⟩, []⟩,
    ⟨⟨.len .slice (.slot 5), some 6, none⟩, []⟩,
    ⟨⟨.bin .lss 3 .num (.slot 6) (.const (.int .i64 (.ofNat 1))), some 7, none⟩, []⟩])
  (.cond (.slot 7)
   (.region false [⟨⟨.mkif 9 (.const (.str ⟨⟨[115, 108, 105, 99, 101, 115, 46, 77, 105, 110, 58, 32, 101, 109, 112, 116, 121, 32, 108, 105, 115, 116]⟩⟩)), some 8, none⟩, []⟩,
     ⟨⟨.bad, none, none⟩, []⟩])
   .skip))
  (.seq (.region false [⟨⟨.mv (.slot 0), some 9, none⟩, []⟩,
    ⟨⟨.iaddr 1 (.slot 9) (.const (.int .i64 (.ofNat 0))), some 10, none⟩, []⟩,
    ⟨⟨.load false 1 (.slot 10), some 11, none⟩, []⟩,
    ⟨⟨.mv (.slot 11), some 3, none⟩, []⟩])
  (.seq (.seq (.region false [⟨⟨.mv (.const (.int .i64 (.ofNat 1))), some 4, none⟩, []⟩])
  (.block 0 (.loop (.seq (.seq (.region false [⟨⟨.mv (.slot 4), some 12, none⟩, []⟩,
     ⟨⟨.mv (.slot 0), some 13, none⟩, []⟩,
     ⟨⟨.len .slice (.slot 13), some 14, none⟩, []⟩,
     ⟨⟨.bin .lss 3 .num (.slot 12) (.slot 14), some 15, none⟩, []⟩])
   (.cond (.slot 15)
    .skip
    (.exit 0)))
   (.seq (.block 1 (.region false [⟨⟨.mv (.slot 3), some 18, none⟩, []⟩,
     ⟨⟨.mv (.slot 0), some 19, none⟩, []⟩,
     ⟨⟨.mv (.slot 4), some 20, none⟩, []⟩,
     ⟨⟨.iaddr 1 (.slot 19) (.slot 20), some 21, none⟩, []⟩,
     ⟨⟨.load false 1 (.slot 21), some 22, none⟩, []⟩,
     ⟨⟨.minmax true (.slot 18) (.slot 22), some 23, none⟩, []⟩,
     ⟨⟨.mv (.slot 23), some 3, none⟩, []⟩]))
   (.region false [⟨⟨.mv (.slot 4), some 16, none⟩, []⟩,
     ⟨⟨.bin .add 3 .num (.slot 16) (.const (.int .i64 (.ofNat 1))), some 17, none⟩, []⟩,
     ⟨⟨.mv (.slot 17), some 4, none⟩, []⟩]))))))
  (.seq (.region false [⟨⟨.mv (.slot 3), some 24, none⟩, []⟩,
    ⟨⟨.mv (.slot 24), some 2, none⟩, []⟩])
  .ret))))),
  [.tmp 2]⟩
theorem xf25_ok : compFunc Tryz.prog Tryz.f25 = some xf25 := by kernel_rfl
/-- slices.Collect[int64] -/
def xf26 : XFunc := ⟨(.seq (.region false [⟨⟨.mv (.const .nils), some 2, none⟩, []⟩])
  (.seq (.region false [⟨⟨.mv (.slot 0), some 3, none⟩, []⟩,
    ⟨⟨.call (.const (.func 48 [] [])) [(.const .nils), (.slot 3)], some 4, none⟩, []⟩,
    ⟨⟨.mv (.slot 4), some 2, none⟩, []⟩])
  .ret)),
  [.tmp 2]⟩
theorem xf26_ok : compFunc Tryz.prog Tryz.f26 = some xf26 := by kernel_rfl
/-- maps.Keys[map[int64]bool,int64,bool] -/
def xf27 : XFunc := ⟨(.seq (.region false [⟨⟨.box (.slot 0), some 1, none⟩, []⟩,
    ⟨⟨.mv (.const .nilf), some 2, none⟩, []⟩])
  (.seq (.region false [⟨⟨.mkfunc 49 [] [(.slot 1)], some 3, none⟩, []⟩,
    ⟨⟨.mv (.slot 3), some 2, none⟩, []⟩])
  .ret)),
  [.tmp 2]⟩
theorem xf27_ok : compFunc Tryz.prog Tryz.f27 = some xf27 := by kernel_rfl
/-- (*threshing/base.Base).full -/
def xf28 : XFunc := ⟨(.seq (.region false [⟨⟨.mv (.const (.bool false)), some 2, none⟩, []⟩])
  (.seq (.region false [⟨⟨.mv (.slot 0), some 3, none⟩, []⟩,
    ⟨⟨.nilCheck (.slot 3), some 4, none⟩, []⟩,
    ⟨⟨.faddr 5 (.slot 4), some 5, none⟩, []⟩,
    ⟨⟨.load false 1 (.slot 5), some 6, none⟩, []⟩,
    ⟨⟨.len .slice (.slot 6), some 7, none⟩, []⟩,
    ⟨⟨.bin .geq 3 .num (.slot 7) (.const (.int .i64 (.ofNat 4194304))), some 8, none⟩, []⟩,
    ⟨⟨.mv (.slot 8), some 2, none⟩, []⟩])
  .ret)),
  [.tmp 2]⟩
theorem xf28_ok : compFunc Tryz.prog Tryz.f28 = some xf28 := by kernel_rfl
/-- (*threshing/base.Base).right -/
def xf29 : XFunc := ⟨(.seq (.region false [⟨⟨.box (.slot 0), some 2, none⟩, []⟩,
    ⟨⟨.mv (.const (.bool false)), some 4, none⟩, []⟩])
  (.seq (.region false [⟨⟨.mv (.slot 1), some 5, none⟩, []⟩,
    ⟨⟨.mkfunc 51 [] [(.slot 2)], some 6, none⟩, []⟩,
    ⟨⟨.call (.const (.func 50 [] [])) [(.slot 5), (.slot 6)], some 7, none⟩, []⟩,
    ⟨⟨.un .not (.slot 7), some 8, none⟩, []⟩,
    ⟨⟨.mv (.slot 8), some 4, none⟩, []⟩])
  .ret)),
  [.tmp 4]⟩
theorem xf29_ok : compFunc Tryz.prog Tryz.f29 = some xf29 := by kernel_rfl
/-- (*threshing/base.Base).follows -/
def xf30 : XFunc := ⟨(.seq (.region false [⟨⟨.mv (.const (.int .i64 (.ofNat 0))), some 6, none⟩, []⟩])
  (.seq (.region false [⟨⟨.mkmap .i32, some 18, none⟩, []⟩,
    ⟨⟨.alloc [.nilm], some 7, none⟩, []⟩,
    ⟨⟨.store 1 (.slot 7) (.slot 18), none, none⟩, []⟩])
  (.seq (.region false [⟨⟨.mkfunc 53 [] [(.slot 7)], some 19, none⟩, []⟩,
    ⟨⟨.mv (.slot 19), some 8, none⟩, []⟩])
  (.seq (.seq (.region false [⟨⟨.mv (.slot 1), some 20, none⟩, []⟩,
    ⟨⟨.len .slice (.slot 20), some 21, none⟩, []⟩,
    ⟨⟨.mv (.const (.int .i64 (.ofNat 0))), some 22, none⟩, []⟩])
  (.block 0 (.loop (.seq (.region false [⟨⟨.bin .lss 3 .num (.slot 22) (.slot 21), some 23, none⟩, []⟩])
   (.seq (.cond (.slot 23)
    .skip
    (.exit 0))
   (.seq (.block 1 (.seq (.region false [⟨⟨.iaddr 1 (.slot 20) (.slot 22), some 24, none⟩, []⟩,
     ⟨⟨.load false 1 (.slot 24), some 25, none⟩, []⟩,
     ⟨⟨.mv (.slot 25), some 10, none⟩, []⟩])
   (.seq (.region false [⟨⟨.mv (.slot 8), some 26, none⟩, []⟩,
     ⟨⟨.mv (.slot 10), some 27, none⟩, []⟩,
     ⟨⟨.call (.slot 26) [(.slot 27)], some 28, none⟩, []⟩])
   (.cond (.slot 28)
    (.seq (.region false [⟨⟨.mv (.const (.int .i64 (.ofNat 0))), some 6, none⟩, []⟩])
    .ret)
    .skip))))
   (.region false [⟨⟨.bin .add 3 .num (.slot 22) (.const (.int .i64 (.ofNat 1))), some 29, none⟩, []⟩,
     ⟨⟨.mv (.slot 29), some 22, none⟩, []⟩])))))))
  (.seq (.seq (.region false [⟨⟨.mv (.slot 2), some 30, none⟩, []⟩,
    ⟨⟨.len .slice (.slot 30), some 31, none⟩, []⟩,
    ⟨⟨.mv (.const (.int .i64 (.ofNat 0))), some 32, none⟩, []⟩])
  (.block 2 (.loop (.seq (.region false [⟨⟨.bin .lss 3 .num (.slot 32) (.slot 31), some 33, none⟩, []⟩])
   (.seq (.cond (.slot 33)
    .skip
    (.exit 2))
   (.seq (.block 3 (.seq (.region false [⟨⟨.iaddr 1 (.slot 30) (.slot 32), some 34, none⟩, []⟩,
     ⟨⟨.load false 1 (.slot 34), some 35, none⟩, []⟩,
     ⟨⟨.mv (.slot 35), some 12, none⟩, []⟩])
   (.seq (.region false [⟨⟨.mv (.slot 0), some 37, none⟩, []⟩,
     ⟨⟨.nilCheck (.slot 37), some 38, none⟩, []⟩,
     ⟨⟨.faddr 1 (.slot 38), some 39, none⟩, []⟩,
     ⟨⟨.load false 1 (.slot 39), some 40, none⟩, []⟩,
     ⟨⟨.mv (.slot 12), some 41, none⟩, []⟩,
     ⟨⟨.lookup .i64 (.agg [(.int .i64 (.ofNat 0)), .nils, (.bool false)]) (.slot 40) (.slot 41) true, some 42, none⟩, []⟩,
     ⟨⟨.mv (.slot 42), some 36, none⟩, []⟩,
     ⟨⟨.extract (.slot 36) 0, some 43, none⟩, []⟩,
     ⟨⟨.extract (.slot 36) 1, some 44, none⟩, []⟩,
     ⟨⟨.alloc [(.int .i64 (.ofNat 0)), .nils, (.bool false)], some 13, none⟩, []⟩,
     ⟨⟨.store 3 (.slot 13) (.slot 43), none, none⟩, []⟩,
     ⟨⟨.mv (.slot 44), some 14, none⟩, []⟩])
   (.seq (.seq (.region false [⟨⟨.mv (.slot 14), some 45, none⟩, []⟩,
     ⟨⟨.un .not (.slot 45), some 46, none⟩, []⟩])
   (.cond (.slot 46)
    (.seq (.region false [⟨⟨.mv (.const (.int .i64 (.ofNat 60))), some 6, none⟩, []⟩])
    .ret)
    .skip))
   (.seq (.region false [⟨⟨.mv (.const (.int .i32 (.ofNat 0))), some 15, none⟩, []⟩])
   (.seq (.seq (.region false [⟨⟨.faddr 1 (.slot 13), some 47, none⟩, []⟩,
     ⟨⟨.load false 1 (.slot 47), some 48, none⟩, []⟩,
     ⟨⟨.len .slice (.slot 48), some 49, none⟩, []⟩,
     ⟨⟨.mv (.const (.int .i64 (.ofNat 0))), some 50, none⟩, []⟩])
   (.block 4 (.loop (.seq (.region false [⟨⟨.bin .lss 3 .num (.slot 50) (.slot 49), some 51, none⟩, []⟩])
    (.seq (.cond (.slot 51)
     .skip
     (.exit 4))
    (.seq (.block 5 (.seq (.region false [⟨⟨.iaddr 1 (.slot 48) (.slot 50), some 52, none⟩, []⟩,
      ⟨⟨.load false 1 (.slot 52), some 53, none⟩, []⟩,
      ⟨⟨.mv (.slot 53), some 17, none⟩, []⟩])
    (.block 6 (.seq (.seq (.region false [⟨⟨.load false 1 (.slot 7), some 56, none⟩, []⟩,
      ⟨⟨.mv (.slot 17), some 57, none⟩, []⟩,
      ⟨⟨.lookup .i32 (.bool false) (.slot 56) (.slot 57) false, some 58, none⟩, []⟩,
      ⟨⟨.mv (.slot 58), some 55, none⟩, []⟩])
    (.cond (.slot 55)
     .skip
     (.region false [⟨⟨.mv (.slot 17), some 59, none⟩, []⟩,
       ⟨⟨.mv (.slot 15), some 60, none⟩, []⟩,
       ⟨⟨.bin .eql 24 .num (.slot 59) (.slot 60), some 61, none⟩, []⟩,
       ⟨⟨.mv (.slot 61), some 55, none⟩, []⟩])))
    (.cond (.slot 55)
     .skip
     (.seq (.region false [⟨⟨.mv (.slot 15), some 63, none⟩, []⟩,
       ⟨⟨.bin .neq 24 .num (.slot 63) (.const (.int .i32 (.ofNat 0))), some 64, none⟩, []⟩,
       ⟨⟨.mv (.slot 64), some 62, none⟩, []⟩])
     (.cond (.slot 62)
      (.seq (.region false [⟨⟨.mv (.const (.int .i64 (.ofNat 60))), some 6, none⟩, []⟩])
      .ret)
      (.region false [⟨⟨.mv (.slot 17), some 54, none⟩, []⟩,
        ⟨⟨.mv (.slot 54), some 15, none⟩, []⟩]))))))))
    (.region false [⟨⟨.bin .add 3 .num (.slot 50) (.const (.int .i64 (.ofNat 1))), some 65, none⟩, []⟩,
      ⟨⟨.mv (.slot 65), some 50, none⟩, []⟩])))))))
   (.seq (.block 7 (.seq (.region false [⟨⟨.mv (.slot 15), some 67, none⟩, []⟩,
     ⟨⟨.bin .eql 24 .num (.slot 67) (.const (.int .i32 (.ofNat 0))), some 68, none⟩, []⟩,
     ⟨⟨.mv (.slot 68), some 66, none⟩, []⟩])
   (.cond (.slot 66)
    (.seq (.region false [⟨⟨.mv (.const (.int .i64 (.ofNat 0))), some 6, none⟩, []⟩])
    .ret)
    (.seq (.region false [⟨⟨.load false 1 (.slot 7), some 70, none⟩, []⟩,
      ⟨⟨.mv (.slot 15), some 71, none⟩, []⟩,
      ⟨⟨.un .neg (.slot 71), some 72, none⟩, []⟩,
      ⟨⟨.lookup .i32 (.bool false) (.slot 70) (.slot 72) false, some 73, none⟩, []⟩,
      ⟨⟨.mv (.slot 73), some 69, none⟩, []⟩])
    (.cond (.slot 69)
     (.seq (.region false [⟨⟨.mv (.const (.int .i64 (.ofNat 60))), some 6, none⟩, []⟩])
     .ret)
     .skip)))))
   (.region false [⟨⟨.mv (.slot 8), some 74, none⟩, []⟩,
     ⟨⟨.mv (.slot 15), some 75, none⟩, []⟩,
     ⟨⟨.un .neg (.slot 75), some 76, none⟩, []⟩,
     ⟨⟨.call (.slot 74) [(.slot 76)], some 77, none⟩, []⟩]))))))))
   (.region false [⟨⟨.bin .add 3 .num (.slot 32) (.const (.int .i64 (.ofNat 1))), some 78, none⟩, []⟩,
     ⟨⟨.mv (.slot 78), some 32, none⟩, []⟩])))))))
  (.seq (.region false [⟨⟨.mv (.const (.int .i64 (.ofNat 61))), some 6, none⟩, []⟩])
  .ret)))))),
  [.tmp 6]⟩
theorem xf30_ok : compFunc Tryz.prog Tryz.f30 = some xf30 := by kernel_rfl
/-- (*threshing/base.Base).put -/
def xf31 : XFunc := ⟨(.seq (.region false [⟨⟨.mv (.slot 0), some 8, none⟩, []⟩,
    ⟨⟨.nilCheck (.slot 8), some 9, none⟩, []⟩,
    ⟨⟨.faddr 4 (.slot 9), some 10, none⟩, []⟩,
    ⟨⟨.load false 1 (.slot 10), some 11, none⟩, []⟩,
    ⟨⟨.bin .add 2 .num (.slot 11) (.const (.int .i64 (.ofNat 1))), some 12, none⟩, []⟩,
    ⟨⟨.nilCheck (.slot 8), some 13, none⟩, []⟩,
    ⟨⟨.faddr 4 (.slot 13), some 14, none⟩, []⟩,
    ⟨⟨.store 1 (.slot 14) (.slot 12), none, none⟩, []⟩])
  (.seq (.region true [⟨⟨.mv (.slot 0), some 15, none⟩, []⟩,
    ⟨⟨.nilCheck (.slot 15), some 16, none⟩, []⟩,
    ⟨⟨.faddr 1 (.slot 16), some 17, none⟩, []⟩,
    ⟨⟨.load false 1 (.slot 17), some 18, none⟩, []⟩,
    ⟨⟨.mv (.slot 0), some 19, none⟩, []⟩,
    ⟨⟨.nilCheck (.slot 19), some 20, none⟩, []⟩,
    ⟨⟨.faddr 4 (.slot 20), some 21, none⟩, []⟩,
    ⟨⟨.load false 1 (.slot 21), some 22, none⟩, []⟩,
    ⟨⟨.mv (.slot 0), some 23, none⟩, []⟩,
    ⟨⟨.nilCheck (.slot 23), some 24, none⟩, []⟩,
    ⟨⟨.faddr 4 (.slot 24), some 25, none⟩, []⟩,
    ⟨⟨.load false 1 (.slot 25), some 26, none⟩, []⟩,
    ⟨⟨.mv (.slot 1), some 27, none⟩, []⟩,
    ⟨⟨.mv (.slot 2), some 29, none⟩, []⟩,
    ⟨⟨.call (.const (.func 24 [] [])) [(.slot 27)], some 28, none⟩, [⟨.load false 1 (.slot 17), some 18, none⟩, ⟨.load false 1 (.slot 21), some 22, none⟩, ⟨.load false 1 (.slot 25), some 26, none⟩]⟩,
    ⟨⟨.build [(.int .i64 (.ofNat 0)), .nils, (.bool false)] [(0, 1, (.slot 26)), (1, 1, (.slot 28)), (2, 1, (.slot 29))], some 30, none⟩, []⟩,
    ⟨⟨.mapup .i64 (.slot 18) (.slot 22) (.slot 30), none, none⟩, []⟩])
  (.seq (.seq (.region false [⟨⟨.mv (.slot 1), some 31, none⟩, []⟩,
    ⟨⟨.len .slice (.slot 31), some 32, none⟩, []⟩,
    ⟨⟨.bin .eql 3 .num (.slot 32) (.const (.int .i64 (.ofNat 0))), some 33, none⟩, []⟩])
  (.cond (.slot 33)
   (.region true [⟨⟨.mv (.slot 0), some 34, none⟩, []⟩,
     ⟨⟨.nilCheck (.slot 34), some 35, none⟩, []⟩,
     ⟨⟨.faddr 3 (.slot 35), some 36, none⟩, []⟩,
     ⟨⟨.load false 1 (.slot 36), some 37, none⟩, []⟩,
     ⟨⟨.mv (.slot 0), some 38, none⟩, []⟩,
     ⟨⟨.nilCheck (.slot 38), some 39, none⟩, []⟩,
     ⟨⟨.faddr 4 (.slot 39), some 40, none⟩, []⟩,
     ⟨⟨.load false 1 (.slot 40), some 41, none⟩, []⟩,
     ⟨⟨.mapup .i64 (.slot 37) (.slot 41) (.const (.bool true)), none, none⟩, []⟩])
   .skip))
  (.seq (.region false [⟨⟨.mv (.slot 1), some 42, none⟩, []⟩,
    ⟨⟨.len .slice (.slot 42), some 43, none⟩, []⟩,
    ⟨⟨.mv (.const (.int .i64 (.ofNat 0))), some 44, none⟩, []⟩])
  (.block 0 (.loop (.seq (.region false [⟨⟨.bin .lss 3 .num (.slot 44) (.slot 43), some 45, none⟩, []⟩])
   (.seq (.cond (.slot 45)
    .skip
    (.exit 0))
   (.seq (.block 1 (.seq (.region false [⟨⟨.iaddr 1 (.slot 42) (.slot 44), some 46, none⟩, []⟩,
     ⟨⟨.load false 1 (.slot 46), some 47, none⟩, []⟩,
     ⟨⟨.mv (.slot 47), some 7, none⟩, []⟩])
   (.seq (.seq (.region false [⟨⟨.mv (.slot 0), some 48, none⟩, []⟩,
     ⟨⟨.nilCheck (.slot 48), some 49, none⟩, []⟩,
     ⟨⟨.faddr 2 (.slot 49), some 50, none⟩, []⟩,
     ⟨⟨.load false 1 (.slot 50), some 51, none⟩, []⟩,
     ⟨⟨.mv (.slot 7), some 52, none⟩, []⟩,
     ⟨⟨.lookup .i32 .nilm (.slot 51) (.slot 52) false, some 53, none⟩, []⟩,
     ⟨⟨.bin .eql 63 .map (.slot 53) (.const .nilm), some 54, none⟩, []⟩])
   (.cond (.slot 54)
    (.region false [⟨⟨.mv (.slot 0), some 55, none⟩, []⟩,
      ⟨⟨.nilCheck (.slot 55), some 56, none⟩, []⟩,
      ⟨⟨.faddr 2 (.slot 56), some 57, none⟩, []⟩,
      ⟨⟨.load false 1 (.slot 57), some 58, none⟩, []⟩,
      ⟨⟨.mv (.slot 7), some 59, none⟩, []⟩,
      ⟨⟨.mkmap .i64, some 60, none⟩, []⟩,
      ⟨⟨.mapup .i32 (.slot 58) (.slot 59) (.slot 60), none, none⟩, []⟩])
    .skip))
   (.region true [⟨⟨.mv (.slot 0), some 61, none⟩, []⟩,
     ⟨⟨.nilCheck (.slot 61), some 62, none⟩, []⟩,
     ⟨⟨.faddr 2 (.slot 62), some 63, none⟩, []⟩,
     ⟨⟨.load false 1 (.slot 63), some 64, none⟩, []⟩,
     ⟨⟨.mv (.slot 7), some 65, none⟩, []⟩,
     ⟨⟨.lookup .i32 .nilm (.slot 64) (.slot 65) false, some 66, none⟩, []⟩,
     ⟨⟨.mv (.slot 0), some 67, none⟩, []⟩,
     ⟨⟨.nilCheck (.slot 67), some 68, none⟩, []⟩,
     ⟨⟨.faddr 4 (.slot 68), some 69, none⟩, []⟩,
     ⟨⟨.load false 1 (.slot 69), some 70, none⟩, []⟩,
     ⟨⟨.mapup .i64 (.slot 66) (.slot 70) (.const (.bool true)), none, none⟩, []⟩]))))
   (.region false [⟨⟨.bin .add 3 .num (.slot 44) (.const (.int .i64 (.ofNat 1))), some 71, none⟩, []⟩,
     ⟨⟨.mv (.slot 71), some 44, none⟩, []⟩])))))))))),
  []⟩
theorem xf31_ok : compFunc Tryz.prog Tryz.f31 = some xf31 := by kernel_rfl
/-- slices.Clone[[]int64,int64] -/
def xf32 : XFunc := ⟨(.seq (.region false [⟨⟨.mv (.const .nils), some 2, none⟩, []⟩])
  (.seq (.seq (.region false [⟨⟨.mv (.slot 0), some 3, none⟩, []⟩,
    ⟨⟨.bin .eql 37 .slice (.slot 3) (.const .nils), some 4, none⟩, []⟩])
  (.cond (.slot 4)
   (.seq (.region false [⟨⟨.mv (.const .nils), some 2, none⟩, []⟩])
   .ret)
   .skip))
  (.seq (.region false [⟨⟨.bslice 1 [] [] 0, some 5, none⟩, []⟩,
    ⟨⟨.mv (.slot 0), some 6, none⟩, []⟩,
    ⟨⟨.append 1 8 (.slot 5) (.slot 6), some 7, none⟩, []⟩,
    ⟨⟨.mv (.slot 7), some 2, none⟩, []⟩])
  .ret))),
  [.tmp 2]⟩
theorem xf32_ok : compFunc Tryz.prog Tryz.f32 = some xf32 := by kernel_rfl
/-- (*threshing/base.Base).note -/
def xf33 : XFunc := ⟨(.seq (.region false [⟨⟨.box (.slot 1), some 3, none⟩, []⟩,
    ⟨⟨.mv (.const (.int .i64 (.ofNat 0))), some 4, none⟩, []⟩])
  (.seq (.region true [⟨⟨.mv (.slot 0), some 5, none⟩, []⟩,
    ⟨⟨.mv (.slot 0), some 6, none⟩, []⟩,
    ⟨⟨.nilCheck (.slot 6), some 7, none⟩, []⟩,
    ⟨⟨.faddr 7 (.slot 7), some 8, none⟩, []⟩,
    ⟨⟨.load false 1 (.slot 8), some 9, none⟩, []⟩,
    ⟨⟨.load true 6 (.slot 3), some 10, none⟩, []⟩,
    ⟨⟨.bslice 6 [(.int .u8 (.ofNat 0)), (.int .i64 (.ofNat 0)), (.int .i64 (.ofNat 0)), (.bool false), .nils, .nils] [(0, 6, (.slot 10))] 1, some 11, none⟩, [⟨.load false 1 (.slot 8), some 9, none⟩]⟩,
    ⟨⟨.append 6 80 (.slot 9) (.slot 11), some 12, none⟩, []⟩,
    ⟨⟨.nilCheck (.slot 5), some 13, none⟩, []⟩,
    ⟨⟨.faddr 7 (.slot 13), some 14, none⟩, []⟩,
    ⟨⟨.store 1 (.slot 14) (.slot 12), none, none⟩, []⟩])
  (.seq (.region false [⟨⟨.mv (.const (.int .i64 (.ofNat 0))), some 4, none⟩, []⟩])
  .ret))),
  [.tmp 4]⟩
theorem xf33_ok : compFunc Tryz.prog Tryz.f33 = some xf33 := by kernel_rfl
/-- threshing/threshingkit.SameClause -/
def xf34 : XFunc := ⟨(.seq (.region false [⟨⟨.mv (.const (.bool false)), some 4, none⟩, []⟩])
  (.seq (.seq (.region false [⟨⟨.mv (.slot 0), some 6, none⟩, []⟩,
    ⟨⟨.len .slice (.slot 6), some 7, none⟩, []⟩,
    ⟨⟨.mv (.slot 1), some 8, none⟩, []⟩,
    ⟨⟨.len .slice (.slot 8), some 9, none⟩, []⟩,
    ⟨⟨.bin .neq 3 .num (.slot 7) (.slot 9), some 10, none⟩, []⟩])
  (.cond (.slot 10)
   (.seq (.region false [⟨⟨.mv (.const (.bool false)), some 4, none⟩, []⟩])
   .ret)
   .skip))
  (.seq (.seq (.region false [⟨⟨.mv (.const (.int .i64 (.ofNat 0))), some 5, none⟩, []⟩])
  (.block 0 (.loop (.seq (.seq (.region false [⟨⟨.mv (.slot 5), some 11, none⟩, []⟩,
     ⟨⟨.mv (.slot 0), some 12, none⟩, []⟩,
     ⟨⟨.len .slice (.slot 12), some 13, none⟩, []⟩,
     ⟨⟨.bin .lss 3 .num (.slot 11) (.slot 13), some 14, none⟩, []⟩])
   (.cond (.slot 14)
    .skip
    (.exit 0)))
   (.seq (.block 1 (.seq (.region true [⟨⟨.mv (.slot 0), some 17, none⟩, []⟩,
     ⟨⟨.mv (.slot 5), some 18, none⟩, []⟩,
     ⟨⟨.iaddr 1 (.slot 17) (.slot 18), some 19, none⟩, []⟩,
     ⟨⟨.load false 1 (.slot 19), some 20, none⟩, []⟩,
     ⟨⟨.mv (.slot 1), some 21, none⟩, []⟩,
     ⟨⟨.mv (.slot 5), some 22, none⟩, []⟩,
     ⟨⟨.iaddr 1 (.slot 21) (.slot 22), some 23, none⟩, []⟩,
     ⟨⟨.load false 1 (.slot 23), some 24, none⟩, []⟩,
     ⟨⟨.bin .neq 24 .num (.slot 20) (.slot 24), some 25, none⟩, []⟩])
   (.cond (.slot 25)
    (.seq (.region false [⟨⟨.mv (.const (.bool false)), some 4, none⟩, []⟩])
    .ret)
    .skip)))
   (.region false [⟨⟨.mv (.slot 5), some 15, none⟩, []⟩,
     ⟨⟨.bin .add 3 .num (.slot 15) (.const (.int .i64 (.ofNat 1))), some 16, none⟩, []⟩,
     ⟨⟨.mv (.slot 16), some 5, none⟩, []⟩]))))))
  (.seq (.region false [⟨⟨.mv (.const (.bool true)), some 4, none⟩, []⟩])
  .ret)))),
  [.tmp 4]⟩
theorem xf34_ok : compFunc Tryz.prog Tryz.f34 = some xf34 := by kernel_rfl
/-- threshing/cnf.Right -/
def xf35 : XFunc := ⟨(.seq (.region false [⟨⟨.box (.slot 0), some 1, none⟩, []⟩,
    ⟨⟨.mv (.const (.int .i64 (.ofNat 0))), some 2, none⟩, []⟩])
  (.seq (.block 0 (.seq (.seq (.region false [⟨⟨.faddr 0 (.slot 1), some 9, none⟩, []⟩,
    ⟨⟨.load false 1 (.slot 9), some 10, none⟩, []⟩,
    ⟨⟨.bin .lss 3 .num (.slot 10) (.const (.int .i64 (.ofNat 0))), some 11, none⟩, []⟩,
    ⟨⟨.mv (.slot 11), some 8, none⟩, []⟩])
  (.cond (.slot 8)
   .skip
   (.region false [⟨⟨.faddr 0 (.slot 1), some 12, none⟩, []⟩,
     ⟨⟨.load false 1 (.slot 12), some 13, none⟩, []⟩,
     ⟨⟨.bin .gtr 3 .num (.slot 13) (.const (.int .i64 (.ofNat 1048576))), some 14, none⟩, []⟩,
     ⟨⟨.mv (.slot 14), some 8, none⟩, []⟩])))
  (.cond (.slot 8)
   (.seq (.region false [⟨⟨.mv (.const (.int .i64 (.ofNat 2))), some 2, none⟩, []⟩])
   .ret)
   (.seq (.region false [⟨⟨.faddr 1 (.slot 1), some 16, none⟩, []⟩,
     ⟨⟨.load false 1 (.slot 16), some 17, none⟩, []⟩,
     ⟨⟨.len .slice (.slot 17), some 18, none⟩, []⟩,
     ⟨⟨.bin .gtr 3 .num (.slot 18) (.const (.int .i64 (.ofNat 1048576))), some 19, none⟩, []⟩,
     ⟨⟨.mv (.slot 19), some 15, none⟩, []⟩])
   (.cond (.slot 15)
    (.seq (.region false [⟨⟨.mv (.const (.int .i64 (.ofNat 3))), some 2, none⟩, []⟩])
    .ret)
    .skip)))))
  (.seq (.region false [⟨⟨.mv (.const (.int .i64 (.ofNat 16777216))), some 3, none⟩, []⟩])
  (.seq (.seq (.region false [⟨⟨.faddr 1 (.slot 1), some 20, none⟩, []⟩,
    ⟨⟨.load false 1 (.slot 20), some 21, none⟩, []⟩,
    ⟨⟨.len .slice (.slot 21), some 22, none⟩, []⟩,
    ⟨⟨.mv (.const (.int .i64 (.ofNat 0))), some 23, none⟩, []⟩])
  (.block 1 (.loop (.seq (.region false [⟨⟨.bin .lss 3 .num (.slot 23) (.slot 22), some 24, none⟩, []⟩])
   (.seq (.cond (.slot 24)
    .skip
    (.exit 1))
   (.seq (.block 2 (.seq (.region false [⟨⟨.iaddr 1 (.slot 21) (.slot 23), some 25, none⟩, []⟩,
     ⟨⟨.load false 1 (.slot 25), some 26, none⟩, []⟩,
     ⟨⟨.mv (.slot 26), some 5, none⟩, []⟩])
   (.seq (.region false [⟨⟨.mv (.slot 5), some 27, none⟩, []⟩,
     ⟨⟨.len .slice (.slot 27), some 28, none⟩, []⟩,
     ⟨⟨.mv (.const (.int .i64 (.ofNat 0))), some 29, none⟩, []⟩])
   (.block 3 (.loop (.seq (.region false [⟨⟨.bin .lss 3 .num (.slot 29) (.slot 28), some 30, none⟩, []⟩])
    (.seq (.cond (.slot 30)
     .skip
     (.exit 3))
    (.seq (.block 4 (.seq (.region false [⟨⟨.iaddr 1 (.slot 27) (.slot 29), some 31, none⟩, []⟩,
      ⟨⟨.load false 1 (.slot 31), some 32, none⟩, []⟩,
      ⟨⟨.mv (.slot 32), some 7, none⟩, []⟩])
    (.seq (.seq (.region false [⟨⟨.mv (.slot 3), some 33, none⟩, []⟩,
      ⟨⟨.bin .eql 3 .num (.slot 33) (.const (.int .i64 (.ofNat 0))), some 34, none⟩, []⟩])
    (.cond (.slot 34)
     (.seq (.region false [⟨⟨.mv (.const (.int .i64 (.ofNat 3))), some 2, none⟩, []⟩])
     .ret)
     .skip))
    (.seq (.region false [⟨⟨.mv (.slot 3), some 35, none⟩, []⟩,
      ⟨⟨.bin .sub 3 .num (.slot 35) (.const (.int .i64 (.ofNat 1))), some 36, none⟩, []⟩,
      ⟨⟨.mv (.slot 36), some 3, none⟩, []⟩])
    (.seq (.region true [⟨⟨.mv (.slot 7), some 37, none⟩, []⟩,
      ⟨⟨.bin .eql 24 .num (.slot 37) (.const (.int .i32 (.ofNat 0))), some 38, none⟩, []⟩,
      ⟨⟨.mv (.slot 38), some 39, none⟩, []⟩,
      ⟨⟨.mv (.slot 7), some 40, some (39, false)⟩, []⟩,
      ⟨⟨.faddr 0 (.slot 1), some 42, some (39, false)⟩, []⟩,
      ⟨⟨.load false 1 (.slot 42), some 43, some (39, false)⟩, []⟩,
      ⟨⟨.call (.const (.func 52 [] [])) [(.slot 40)], some 41, some (39, false)⟩, [⟨.load false 1 (.slot 42), some 43, some (39, false)⟩]⟩,
      ⟨⟨.bin .gtr 3 .num (.slot 41) (.slot 43), some 44, some (39, false)⟩, []⟩,
      ⟨⟨.pick (.slot 39) (.const (.bool true)) (.slot 44), some 45, none⟩, []⟩])
    (.cond (.slot 45)
     (.seq (.region false [⟨⟨.mv (.const (.int .i64 (.ofNat 4))), some 2, none⟩, []⟩])
     .ret)
     .skip))))))
    (.region false [⟨⟨.bin .add 3 .num (.slot 29) (.const (.int .i64 (.ofNat 1))), some 46, none⟩, []⟩,
      ⟨⟨.mv (.slot 46), some 29, none⟩, []⟩])))))))))
   (.region false [⟨⟨.bin .add 3 .num (.slot 23) (.const (.int .i64 (.ofNat 1))), some 47, none⟩, []⟩,
     ⟨⟨.mv (.slot 47), some 23, none⟩, []⟩])))))))
  (.seq (.region false [⟨⟨.mv (.const (.int .i64 (.ofNat 0))), some 2, none⟩, []⟩])
  .ret))))),
  [.tmp 2]⟩
theorem xf35_ok : compFunc Tryz.prog Tryz.f35 = some xf35 := by kernel_rfl
/-- threshing/elim.of$1 -/
def xf36 : XFunc := ⟨(.seq (.region false [⟨⟨.mv (.const .nils), some 3, none⟩, []⟩])
  (.seq (.region false [⟨⟨.mv (.const .nils), some 4, none⟩, []⟩])
  (.seq (.seq (.region false [⟨⟨.load false 1 (.slot 1), some 9, none⟩, []⟩,
    ⟨⟨.mv (.slot 0), some 10, none⟩, []⟩,
    ⟨⟨.call (.const (.func 10 [] [])) [(.slot 9), (.slot 10)], some 11, none⟩, []⟩,
    ⟨⟨.len .slice (.slot 11), some 12, none⟩, []⟩,
    ⟨⟨.mv (.const (.int .i64 (.ofNat 0))), some 13, none⟩, []⟩])
  (.block 0 (.loop (.seq (.region false [⟨⟨.bin .lss 3 .num (.slot 13) (.slot 12), some 14, none⟩, []⟩])
   (.seq (.cond (.slot 14)
    .skip
    (.exit 0))
   (.seq (.block 1 (.seq (.region false [⟨⟨.iaddr 1 (.slot 11) (.slot 13), some 15, none⟩, []⟩,
     ⟨⟨.load false 1 (.slot 15), some 16, none⟩, []⟩,
     ⟨⟨.mv (.slot 16), some 6, none⟩, []⟩])
   (.seq (.region false [⟨⟨.load false 1 (.slot 1), some 18, none⟩, []⟩,
     ⟨⟨.mv (.slot 6), some 19, none⟩, []⟩,
     ⟨⟨.call (.const (.func 12 [] [])) [(.slot 18), (.slot 19)], some 20, none⟩, []⟩,
     ⟨⟨.mv (.slot 20), some 17, none⟩, []⟩,
     ⟨⟨.extract (.slot 17) 0, some 21, none⟩, []⟩,
     ⟨⟨.extract (.slot 17) 1, some 22, none⟩, []⟩,
     ⟨⟨.alloc [(.int .i64 (.ofNat 0)), .nils, (.bool false)], some 7, none⟩, []⟩,
     ⟨⟨.store 3 (.slot 7) (.slot 21), none, none⟩, []⟩,
     ⟨⟨.mv (.slot 22), some 8, none⟩, []⟩])
   (.seq (.region false [⟨⟨.faddr 2 (.slot 7), some 23, none⟩, []⟩,
     ⟨⟨.load false 1 (.slot 23), some 24, none⟩, []⟩,
     ⟨⟨.un .not (.slot 24), some 25, none⟩, []⟩])
   (.cond (.slot 25)
    (.region false [⟨⟨.mv (.slot 4), some 26, none⟩, []⟩,
      ⟨⟨.load true 3 (.slot 7), some 27, none⟩, []⟩,
      ⟨⟨.bslice 3 [(.int .i64 (.ofNat 0)), .nils, (.bool false)] [(0, 3, (.slot 27))] 1, some 28, none⟩, []⟩,
      ⟨⟨.append 3 40 (.slot 26) (.slot 28), some 29, none⟩, []⟩,
      ⟨⟨.mv (.slot 29), some 4, none⟩, []⟩])
    .skip)))))
   (.region false [⟨⟨.bin .add 3 .num (.slot 13) (.const (.int .i64 (.ofNat 1))), some 30, none⟩, []⟩,
     ⟨⟨.mv (.slot 30), some 13, none⟩, []⟩])))))))
  (.seq (.region false [⟨⟨.mv (.slot 4), some 31, none⟩, []⟩,
    ⟨⟨.mv (.slot 31), some 3, none⟩, []⟩])
  .ret)))),
  [.tmp 3]⟩
theorem xf36_ok : compFunc Tryz.prog Tryz.f36 = some xf36 := by kernel_rfl
/-- threshing/gates.Find -/
def xf37 : XFunc := ⟨(.seq (.region false [⟨⟨.mv (.const .nils), some 4, none⟩, []⟩])
  (.seq (.seq (.region false [⟨⟨.mv (.slot 1), some 9, none⟩, []⟩,
    ⟨⟨.bin .lss 3 .num (.slot 9) (.const (.int .i64 (.ofNat 1))), some 10, none⟩, []⟩,
    ⟨⟨.mv (.slot 10), some 11, none⟩, []⟩,
    ⟨⟨.mv (.slot 1), some 12, some (11, false)⟩, []⟩,
    ⟨⟨.mv (.slot 0), some 13, some (11, false)⟩, []⟩,
    ⟨⟨.call (.const (.func 16 [] [])) [(.slot 13)], some 14, some (11, false)⟩, []⟩,
    ⟨⟨.bin .gtr 3 .num (.slot 12) (.slot 14), some 15, some (11, false)⟩, []⟩,
    ⟨⟨.pick (.slot 11) (.const (.bool true)) (.slot 15), some 16, none⟩, []⟩])
  (.cond (.slot 16)
   (.seq (.region false [⟨⟨.mv (.const .nils), some 4, none⟩, []⟩])
   .ret)
   .skip))
  (.seq (.region false [⟨⟨.mv (.slot 0), some 17, none⟩, []⟩,
    ⟨⟨.mv (.slot 1), some 18, none⟩, []⟩,
    ⟨⟨.conv .i32 (.slot 18), some 19, none⟩, []⟩,
    ⟨⟨.call (.const (.func 54 [] [])) [(.slot 17), (.slot 19)], some 20, none⟩, []⟩,
    ⟨⟨.mv (.slot 20), some 5, none⟩, []⟩])
  (.seq (.region false [⟨⟨.mv (.const .nils), some 6, none⟩, []⟩])
  (.seq (.seq (.region false [⟨⟨.bslice 1 [.nilf, .nilf, .nilf, .nilf] [(0, 1, (.const (.func 55 [] []))), (1, 1, (.const (.func 56 [] []))), (2, 1, (.const (.func 57 [] []))), (3, 1, (.const (.func 58 [] [])))] 4, some 21, none⟩, []⟩,
    ⟨⟨.len .slice (.slot 21), some 22, none⟩, []⟩,
    ⟨⟨.mv (.const (.int .i64 (.ofNat 0))), some 23, none⟩, []⟩])
  (.block 0 (.loop (.seq (.region false [⟨⟨.bin .lss 3 .num (.slot 23) (.slot 22), some 24, none⟩, []⟩])
   (.seq (.cond (.slot 24)
    .skip
    (.exit 0))
   (.seq (.block 1 (.seq (.region false [⟨⟨.iaddr 1 (.slot 21) (.slot 23), some 25, none⟩, []⟩,
     ⟨⟨.load false 1 (.slot 25), some 26, none⟩, []⟩,
     ⟨⟨.mv (.slot 26), some 8, none⟩, []⟩])
   (.region false [⟨⟨.mv (.slot 6), some 27, none⟩, []⟩,
     ⟨⟨.mv (.slot 8), some 28, none⟩, []⟩,
     ⟨⟨.mv (.slot 5), some 29, none⟩, []⟩,
     ⟨⟨.call (.slot 28) [(.slot 29)], some 30, none⟩, []⟩,
     ⟨⟨.append 4 56 (.slot 27) (.slot 30), some 31, none⟩, []⟩,
     ⟨⟨.mv (.slot 31), some 6, none⟩, []⟩])))
   (.region false [⟨⟨.bin .add 3 .num (.slot 23) (.const (.int .i64 (.ofNat 1))), some 32, none⟩, []⟩,
     ⟨⟨.mv (.slot 32), some 23, none⟩, []⟩])))))))
  (.seq (.region false [⟨⟨.mv (.slot 6), some 33, none⟩, []⟩,
    ⟨⟨.mv (.slot 33), some 4, none⟩, []⟩])
  .ret)))))),
  [.tmp 4]⟩
theorem xf37_ok : compFunc Tryz.prog Tryz.f37 = some xf37 := by kernel_rfl
/-- slices.ContainsFunc[[]threshing/api.Entry,threshing/api.Entry] -/
def xf38 : XFunc := ⟨(.seq (.region false [⟨⟨.mv (.const (.bool false)), some 4, none⟩, []⟩])
  (.seq (.region false [⟨⟨.mv (.slot 0), some 5, none⟩, []⟩,
    ⟨⟨.mv (.slot 1), some 6, none⟩, []⟩,
    ⟨⟨.call (.const (.func 59 [] [])) [(.slot 5), (.slot 6)], some 7, none⟩, []⟩,
    ⟨⟨.bin .geq 3 .num (.slot 7) (.const (.int .i64 (.ofNat 0))), some 8, none⟩, []⟩,
    ⟨⟨.mv (.slot 8), some 4, none⟩, []⟩])
  .ret)),
  [.tmp 4]⟩
theorem xf38_ok : compFunc Tryz.prog Tryz.f38 = some xf38 := by kernel_rfl
/-- (*threshing/elim.sides).can$1 -/
def xf39 : XFunc := ⟨(.seq (.region false [⟨⟨.box (.slot 0), some 2, none⟩, []⟩,
    ⟨⟨.mv (.const (.bool false)), some 3, none⟩, []⟩])
  (.seq (.region true [⟨⟨.faddr 1 (.slot 2), some 4, none⟩, []⟩,
    ⟨⟨.load false 1 (.slot 4), some 5, none⟩, []⟩,
    ⟨⟨.load false 1 (.slot 1), some 6, none⟩, []⟩,
    ⟨⟨.nilCheck (.slot 6), some 7, none⟩, []⟩,
    ⟨⟨.faddr 1 (.slot 7), some 8, none⟩, []⟩,
    ⟨⟨.load false 1 (.slot 8), some 9, none⟩, []⟩,
    ⟨⟨.un .neg (.slot 9), some 10, none⟩, []⟩,
    ⟨⟨.call (.const (.func 40 [] [])) [(.slot 5), (.slot 10)], some 11, none⟩, []⟩,
    ⟨⟨.mv (.slot 11), some 3, none⟩, []⟩])
  .ret)),
  [.tmp 3]⟩
theorem xf39_ok : compFunc Tryz.prog Tryz.f39 = some xf39 := by kernel_rfl
/-- slices.Contains[threshing/api.Clause,threshing/api.Lit] -/
def xf40 : XFunc := ⟨(.seq (.region false [⟨⟨.mv (.const (.bool false)), some 4, none⟩, []⟩])
  (.seq (.region false [⟨⟨.mv (.slot 0), some 5, none⟩, []⟩,
    ⟨⟨.mv (.slot 1), some 6, none⟩, []⟩,
    ⟨⟨.call (.const (.func 60 [] [])) [(.slot 5), (.slot 6)], some 7, none⟩, []⟩,
    ⟨⟨.bin .geq 3 .num (.slot 7) (.const (.int .i64 (.ofNat 0))), some 8, none⟩, []⟩,
    ⟨⟨.mv (.slot 8), some 4, none⟩, []⟩])
  .ret)),
  [.tmp 4]⟩
theorem xf40_ok : compFunc Tryz.prog Tryz.f40 = some xf40 := by kernel_rfl
/-- (*threshing/elim.sides).resolvents -/
def xf41 : XFunc := ⟨(.seq (.region false [⟨⟨.box (.slot 0), some 1, none⟩, []⟩,
    ⟨⟨.mv (.const .nilf), some 2, none⟩, []⟩])
  (.seq (.region false [⟨⟨.mkfunc 61 [] [(.slot 1)], some 3, none⟩, []⟩,
    ⟨⟨.mv (.slot 3), some 2, none⟩, []⟩])
  .ret)),
  [.tmp 2]⟩
theorem xf41_ok : compFunc Tryz.prog Tryz.f41 = some xf41 := by kernel_rfl
/-- slices.Concat[[]int64,int64] -/
def xf42 : XFunc := ⟨(.seq (.region false [⟨⟨.mv (.const .nils), some 2, none⟩, []⟩])
  (.seq (.region false [⟨⟨.mv (.const (.int .i64 (.ofNat 0))), some 3, none⟩, []⟩])
  (.seq (.seq (.region false [⟨⟨.mv (.slot 0), some 9, none⟩, []⟩,
    ⟨⟨.len .slice (.slot 9), some 10, none⟩, []⟩,
    ⟨⟨.mv (.const (.int .i64 (.ofNat 0))), some 11, none⟩, []⟩])
  (.block 0 (.loop (.seq (.region false [⟨⟨.bin .lss 3 .num (.slot 11) (.slot 10), some 12, none⟩, []⟩])
   (.seq (.cond (.slot 12)
    .skip
    (.exit 0))
   (.seq (.block 1 (.seq (.region false [⟨⟨.iaddr 1 (.slot 9) (.slot 11), some 13, none⟩, []⟩,
     ⟨⟨.load false 1 (.slot 13), some 14, none⟩, []⟩,
     ⟨⟨.mv (.slot 14), some 5, none⟩, []⟩])
   (.seq (.region false [⟨⟨.mv (.slot 3), some 15, none⟩, []⟩,
     ⟨⟨.mv (.slot 5), some 16, none⟩, []⟩,
     ⟨⟨.len .slice (.slot 16), some 17, none⟩, []⟩,
     ⟨⟨.bin .add 3 .num (.slot 15) (.slot 17), some 18, none⟩, []⟩,
     ⟨⟨.mv (.slot 18), some 3, none⟩, []⟩])
   (.seq (.region false [⟨⟨.mv (.slot 3), some 19, none⟩, []⟩,
     ⟨⟨.bin .lss 3 .num (.slot 19) (.const (.int .i64 (.ofNat 0))), some 20, none⟩, []⟩])
   (.cond (.slot 20)
    (.region false [⟨⟨.mkif 9 (.const (.str ⟨⟨[108, 101, 110, 32, 111, 117, 116, 32, 111, 102, 32, 114, 97, 110, 103, 101]⟩⟩)), some 21, none⟩, []⟩,
      ⟨⟨.bad, none, none⟩, []⟩])
    .skip)))))
   (.region false [⟨⟨.bin .add 3 .num (.slot 11) (.const (.int .i64 (.ofNat 1))), some 22, none⟩, []⟩,
     ⟨⟨.mv (.slot 22), some 11, none⟩, []⟩])))))))
  (.seq (.region false [⟨⟨.mv (.slot 3), some 23, none⟩, []⟩,
    ⟨⟨.call (.const (.func 64 [] [])) [(.const .nils), (.slot 23)], some 24, none⟩, []⟩,
    ⟨⟨.mv (.slot 24), some 6, none⟩, []⟩])
  (.seq (.seq (.region false [⟨⟨.mv (.slot 0), some 25, none⟩, []⟩,
    ⟨⟨.len .slice (.slot 25), some 26, none⟩, []⟩,
    ⟨⟨.mv (.const (.int .i64 (.ofNat 0))), some 27, none⟩, []⟩])
  (.block 2 (.loop (.seq (.region false [⟨⟨.bin .lss 3 .num (.slot 27) (.slot 26), some 28, none⟩, []⟩])
   (.seq (.cond (.slot 28)
    .skip
    (.exit 2))
   (.seq (.block 3 (.seq (.region false [⟨⟨.iaddr 1 (.slot 25) (.slot 27), some 29, none⟩, []⟩,
     ⟨⟨.load false 1 (.slot 29), some 30, none⟩, []⟩,
     ⟨⟨.mv (.slot 30), some 8, none⟩, []⟩])
   (.region false [⟨⟨.mv (.slot 6), some 31, none⟩, []⟩,
     ⟨⟨.mv (.slot 8), some 32, none⟩, []⟩,
     ⟨⟨.append 1 8 (.slot 31) (.slot 32), some 33, none⟩, []⟩,
     ⟨⟨.mv (.slot 33), some 6, none⟩, []⟩])))
   (.region false [⟨⟨.bin .add 3 .num (.slot 27) (.const (.int .i64 (.ofNat 1))), some 34, none⟩, []⟩,
     ⟨⟨.mv (.slot 34), some 27, none⟩, []⟩])))))))
  (.seq (.region false [⟨⟨.mv (.slot 6), some 35, none⟩, []⟩,
    ⟨⟨.mv (.slot 35), some 2, none⟩, []⟩])
  .ret)))))),
  [.tmp 2]⟩
theorem xf42_ok : compFunc Tryz.prog Tryz.f42 = some xf42 := by kernel_rfl
/-- slices.Sort[[]int64,int64] -/
def xf43 : XFunc := ⟨(.seq (.region false [⟨⟨.mv (.slot 0), some 3, none⟩, []⟩,
    ⟨⟨.len .slice (.slot 3), some 4, none⟩, []⟩,
    ⟨⟨.mv (.slot 4), some 2, none⟩, []⟩])
  (.region false [⟨⟨.mv (.slot 0), some 5, none⟩, []⟩,
    ⟨⟨.mv (.slot 2), some 6, none⟩, []⟩,
    ⟨⟨.mv (.slot 2), some 7, none⟩, []⟩,
    ⟨⟨.conv .u64 (.slot 7), some 8, none⟩, []⟩,
    ⟨⟨.call (.const (.func 66 [] [])) [(.slot 8)], some 9, none⟩, []⟩,
    ⟨⟨.call (.const (.func 65 [] [])) [(.slot 5), (.const (.int .i64 (.ofNat 0))), (.slot 6), (.slot 9)], some 10, none⟩, []⟩])),
  []⟩
theorem xf43_ok : compFunc Tryz.prog Tryz.f43 = some xf43 := by kernel_rfl
/-- slices.Compact[[]int64,int64] -/
def xf44 : XFunc := ⟨(.seq (.region false [⟨⟨.mv (.const .nils), some 2, none⟩, []⟩])
  (.seq (.seq (.region false [⟨⟨.mv (.slot 0), some 6, none⟩, []⟩,
    ⟨⟨.len .slice (.slot 6), some 7, none⟩, []⟩,
    ⟨⟨.bin .lss 3 .num (.slot 7) (.const (.int .i64 (.ofNat 2))), some 8, none⟩, []⟩])
  (.cond (.slot 8)
   (.seq (.region false [⟨⟨.mv (.slot 0), some 9, none⟩, []⟩,
     ⟨⟨.mv (.slot 9), some 2, none⟩, []⟩])
   .ret)
   .skip))
  (.seq (.seq (.region false [⟨⟨.mv (.const (.int .i64 (.ofNat 1))), some 3, none⟩, []⟩])
  (.block 0 (.loop (.seq (.seq (.region false [⟨⟨.mv (.slot 3), some 10, none⟩, []⟩,
     ⟨⟨.mv (.slot 0), some 11, none⟩, []⟩,
     ⟨⟨.len .slice (.slot 11), some 12, none⟩, []⟩,
     ⟨⟨.bin .lss 3 .num (.slot 10) (.slot 12), some 13, none⟩, []⟩])
   (.cond (.slot 13)
    .skip
    (.exit 0)))
   (.seq (.block 1 (.seq (.region true [⟨⟨.mv (.slot 0), some 16, none⟩, []⟩,
     ⟨⟨.mv (.slot 3), some 17, none⟩, []⟩,
     ⟨⟨.iaddr 1 (.slot 16) (.slot 17), some 18, none⟩, []⟩,
     ⟨⟨.load false 1 (.slot 18), some 19, none⟩, []⟩,
     ⟨⟨.mv (.slot 0), some 20, none⟩, []⟩,
     ⟨⟨.mv (.slot 3), some 21, none⟩, []⟩,
     ⟨⟨.bin .sub 3 .num (.slot 21) (.const (.int .i64 (.ofNat 1))), some 22, none⟩, []⟩,
     ⟨⟨.iaddr 1 (.slot 20) (.slot 22), some 23, none⟩, []⟩,
     ⟨⟨.load false 1 (.slot 23), some 24, none⟩, []⟩,
     ⟨⟨.bin .eql 2 .num (.slot 19) (.slot 24), some 25, none⟩, []⟩])
   (.cond (.slot 25)
    (.seq (.region false [⟨⟨.mv (.slot 0), some 26, none⟩, []⟩,
      ⟨⟨.mv (.slot 3), some 27, none⟩, []⟩,
      ⟨⟨.slc 1 (.slot 26) (some (.slot 27)) none none, some 28, none⟩, []⟩,
      ⟨⟨.mv (.slot 28), some 4, none⟩, []⟩])
    (.seq (.seq (.region false [⟨⟨.mv (.const (.int .i64 (.ofNat 1))), some 5, none⟩, []⟩])
    (.block 2 (.loop (.seq (.seq (.region false [⟨⟨.mv (.slot 5), some 29, none⟩, []⟩,
       ⟨⟨.mv (.slot 4), some 30, none⟩, []⟩,
       ⟨⟨.len .slice (.slot 30), some 31, none⟩, []⟩,
       ⟨⟨.bin .lss 3 .num (.slot 29) (.slot 31), some 32, none⟩, []⟩])
     (.cond (.slot 32)
      .skip
      (.exit 2)))
     (.seq (.block 3 (.seq (.region true [⟨⟨.mv (.slot 4), some 35, none⟩, []⟩,
       ⟨⟨.mv (.slot 5), some 36, none⟩, []⟩,
       ⟨⟨.iaddr 1 (.slot 35) (.slot 36), some 37, none⟩, []⟩,
       ⟨⟨.load false 1 (.slot 37), some 38, none⟩, []⟩,
       ⟨⟨.mv (.slot 4), some 39, none⟩, []⟩,
       ⟨⟨.mv (.slot 5), some 40, none⟩, []⟩,
       ⟨⟨.bin .sub 3 .num (.slot 40) (.const (.int .i64 (.ofNat 1))), some 41, none⟩, []⟩,
       ⟨⟨.iaddr 1 (.slot 39) (.slot 41), some 42, none⟩, []⟩,
       ⟨⟨.load false 1 (.slot 42), some 43, none⟩, []⟩,
       ⟨⟨.bin .neq 2 .num (.slot 38) (.slot 43), some 44, none⟩, []⟩])
     (.cond (.slot 44)
      (.seq (.region false [⟨⟨.mv (.slot 0), some 45, none⟩, []⟩,
        ⟨⟨.mv (.slot 3), some 46, none⟩, []⟩,
        ⟨⟨.mv (.slot 4), some 47, none⟩, []⟩,
        ⟨⟨.mv (.slot 5), some 48, none⟩, []⟩,
        ⟨⟨.iaddr 1 (.slot 47) (.slot 48), some 49, none⟩, []⟩,
        ⟨⟨.load false 1 (.slot 49), some 50, none⟩, []⟩,
        ⟨⟨.iaddr 1 (.slot 45) (.slot 46), some 51, none⟩, []⟩,
        ⟨⟨.store 1 (.slot 51) (.slot 50), none, none⟩, []⟩])
      (.region false [⟨⟨.mv (.slot 3), some 52, none⟩, []⟩,
        ⟨⟨.bin .add 3 .num (.slot 52) (.const (.int .i64 (.ofNat 1))), some 53, none⟩, []⟩,
        ⟨⟨.mv (.slot 53), some 3, none⟩, []⟩]))
      .skip)))
     (.region false [⟨⟨.mv (.slot 5), some 33, none⟩, []⟩,
       ⟨⟨.bin .add 3 .num (.slot 33) (.const (.int .i64 (.ofNat 1))), some 34, none⟩, []⟩,
       ⟨⟨.mv (.slot 34), some 5, none⟩, []⟩]))))))
    (.seq (.region false [⟨⟨.mv (.slot 0), some 54, none⟩, []⟩,
      ⟨⟨.mv (.slot 3), some 55, none⟩, []⟩,
      ⟨⟨.slc 1 (.slot 54) (some (.slot 55)) none none, some 56, none⟩, []⟩,
      ⟨⟨.clear [(.int .i64 (.ofNat 0))] (.slot 56), none, none⟩, []⟩])
    (.seq (.region false [⟨⟨.mv (.slot 0), some 57, none⟩, []⟩,
      ⟨⟨.mv (.slot 3), some 58, none⟩, []⟩,
      ⟨⟨.slc 1 (.slot 57) none (some (.slot 58)) none, some 59, none⟩, []⟩,
      ⟨⟨.mv (.slot 59), some 2, none⟩, []⟩])
    .ret))))
    .skip)))
   (.region false [⟨⟨.mv (.slot 3), some 14, none⟩, []⟩,
     ⟨⟨.bin .add 3 .num (.slot 14) (.const (.int .i64 (.ofNat 1))), some 15, none⟩, []⟩,
     ⟨⟨.mv (.slot 15), some 3, none⟩, []⟩]))))))
  (.seq (.region false [⟨⟨.mv (.slot 0), some 60, none⟩, []⟩,
    ⟨⟨.mv (.slot 60), some 2, none⟩, []⟩])
  .ret)))),
  [.tmp 2]⟩
theorem xf44_ok : compFunc Tryz.prog Tryz.f44 = some xf44 := by kernel_rfl
/-- (*threshing/base.Base).Delete -/
def xf45 : XFunc := ⟨(.seq (.region false [⟨⟨.mv (.const (.int .i64 (.ofNat 0))), some 4, none⟩, []⟩])
  (.seq (.seq (.region false [⟨⟨.mv (.slot 0), some 8, none⟩, []⟩,
    ⟨⟨.bin .eql 22 .ptr (.slot 8) (.const .nilp), some 9, none⟩, []⟩])
  (.cond (.slot 9)
   (.seq (.region false [⟨⟨.mv (.const (.int .i64 (.ofNat 1))), some 4, none⟩, []⟩])
   .ret)
   .skip))
  (.seq (.region false [⟨⟨.mv (.slot 0), some 11, none⟩, []⟩,
    ⟨⟨.nilCheck (.slot 11), some 12, none⟩, []⟩,
    ⟨⟨.faddr 1 (.slot 12), some 13, none⟩, []⟩,
    ⟨⟨.load false 1 (.slot 13), some 14, none⟩, []⟩,
    ⟨⟨.mv (.slot 1), some 15, none⟩, []⟩,
    ⟨⟨.lookup .i64 (.agg [(.int .i64 (.ofNat 0)), .nils, (.bool false)]) (.slot 14) (.slot 15) true, some 16, none⟩, []⟩,
    ⟨⟨.mv (.slot 16), some 10, none⟩, []⟩,
    ⟨⟨.extract (.slot 10) 0, some 17, none⟩, []⟩,
    ⟨⟨.extract (.slot 10) 1, some 18, none⟩, []⟩,
    ⟨⟨.alloc [(.int .i64 (.ofNat 0)), .nils, (.bool false)], some 5, none⟩, []⟩,
    ⟨⟨.store 3 (.slot 5) (.slot 17), none, none⟩, []⟩,
    ⟨⟨.mv (.slot 18), some 6, none⟩, []⟩])
  (.seq (.block 0 (.seq (.region false [⟨⟨.mv (.slot 6), some 20, none⟩, []⟩,
    ⟨⟨.un .not (.slot 20), some 21, none⟩, []⟩,
    ⟨⟨.mv (.slot 21), some 19, none⟩, []⟩])
  (.cond (.slot 19)
   (.seq (.region false [⟨⟨.mv (.const (.int .i64 (.ofNat 5))), some 4, none⟩, []⟩])
   .ret)
   (.seq (.region false [⟨⟨.faddr 2 (.slot 5), some 23, none⟩, []⟩,
     ⟨⟨.load false 1 (.slot 23), some 24, none⟩, []⟩,
     ⟨⟨.un .not (.slot 24), some 25, none⟩, []⟩,
     ⟨⟨.mv (.slot 25), some 22, none⟩, []⟩])
   (.cond (.slot 22)
    (.seq (.region false [⟨⟨.mv (.const (.int .i64 (.ofNat 7))), some 4, none⟩, []⟩])
    .ret)
    .skip)))))
  (.seq (.seq (.region false [⟨⟨.mv (.slot 0), some 26, none⟩, []⟩,
    ⟨⟨.load true 3 (.slot 5), some 27, none⟩, []⟩,
    ⟨⟨.call (.const (.func 67 [] [])) [(.slot 26), (.slot 27)], some 28, none⟩, []⟩,
    ⟨⟨.mv (.slot 28), some 7, none⟩, []⟩])
  (.seq (.region false [⟨⟨.mv (.slot 7), some 29, none⟩, []⟩,
    ⟨⟨.bin .neq 27 .num (.slot 29) (.const (.int .i64 (.ofNat 0))), some 30, none⟩, []⟩])
  (.cond (.slot 30)
   (.seq (.region false [⟨⟨.mv (.slot 7), some 31, none⟩, []⟩,
     ⟨⟨.mv (.slot 31), some 4, none⟩, []⟩])
   .ret)
   .skip)))
  (.seq (.region false [⟨⟨.mv (.slot 0), some 32, none⟩, []⟩,
    ⟨⟨.mv (.slot 1), some 33, none⟩, []⟩,
    ⟨⟨.build [(.int .u8 (.ofNat 0)), (.int .i64 (.ofNat 0)), (.int .i64 (.ofNat 0)), (.bool false), .nils, .nils] [(0, 1, (.const (.int .u8 (.ofNat 3)))), (1, 1, (.slot 33))], some 34, none⟩, []⟩,
    ⟨⟨.call (.const (.func 33 [] [])) [(.slot 32), (.slot 34)], some 35, none⟩, []⟩,
    ⟨⟨.mv (.slot 35), some 4, none⟩, []⟩])
  .ret)))))),
  [.tmp 4]⟩
theorem xf45_ok : compFunc Tryz.prog Tryz.f45 = some xf45 := by kernel_rfl
/-- (*threshing/base.Base).Weaken -/
def xf46 : XFunc := ⟨(.seq (.region false [⟨⟨.mv (.const (.int .i64 (.ofNat 0))), some 6, none⟩, []⟩])
  (.seq (.seq (.region false [⟨⟨.mv (.slot 0), some 10, none⟩, []⟩,
    ⟨⟨.bin .eql 22 .ptr (.slot 10) (.const .nilp), some 11, none⟩, []⟩])
  (.cond (.slot 11)
   (.seq (.region false [⟨⟨.mv (.const (.int .i64 (.ofNat 1))), some 6, none⟩, []⟩])
   .ret)
   .skip))
  (.seq (.region false [⟨⟨.mv (.slot 0), some 13, none⟩, []⟩,
    ⟨⟨.nilCheck (.slot 13), some 14, none⟩, []⟩,
    ⟨⟨.faddr 1 (.slot 14), some 15, none⟩, []⟩,
    ⟨⟨.load false 1 (.slot 15), some 16, none⟩, []⟩,
    ⟨⟨.mv (.slot 1), some 17, none⟩, []⟩,
    ⟨⟨.lookup .i64 (.agg [(.int .i64 (.ofNat 0)), .nils, (.bool false)]) (.slot 16) (.slot 17) true, some 18, none⟩, []⟩,
    ⟨⟨.mv (.slot 18), some 12, none⟩, []⟩,
    ⟨⟨.extract (.slot 12) 0, some 19, none⟩, []⟩,
    ⟨⟨.extract (.slot 12) 1, some 20, none⟩, []⟩,
    ⟨⟨.alloc [(.int .i64 (.ofNat 0)), .nils, (.bool false)], some 7, none⟩, []⟩,
    ⟨⟨.store 3 (.slot 7) (.slot 19), none, none⟩, []⟩,
    ⟨⟨.mv (.slot 20), some 8, none⟩, []⟩])
  (.seq (.block 0 (.seq (.region false [⟨⟨.mv (.slot 8), some 22, none⟩, []⟩,
    ⟨⟨.un .not (.slot 22), some 23, none⟩, []⟩,
    ⟨⟨.mv (.slot 23), some 21, none⟩, []⟩])
  (.cond (.slot 21)
   (.seq (.region false [⟨⟨.mv (.const (.int .i64 (.ofNat 5))), some 6, none⟩, []⟩])
   .ret)
   (.seq (.region false [⟨⟨.faddr 2 (.slot 7), some 25, none⟩, []⟩,
     ⟨⟨.load false 1 (.slot 25), some 26, none⟩, []⟩,
     ⟨⟨.mv (.slot 26), some 24, none⟩, []⟩])
   (.cond (.slot 24)
    (.seq (.region false [⟨⟨.mv (.const (.int .i64 (.ofNat 7))), some 6, none⟩, []⟩])
    .ret)
    (.seq (.region false [⟨⟨.mv (.slot 0), some 28, none⟩, []⟩,
      ⟨⟨.mv (.slot 2), some 29, none⟩, []⟩,
      ⟨⟨.call (.const (.func 29 [] [])) [(.slot 28), (.slot 29)], some 30, none⟩, []⟩,
      ⟨⟨.un .not (.slot 30), some 31, none⟩, []⟩,
      ⟨⟨.mv (.slot 31), some 27, none⟩, []⟩])
    (.cond (.slot 27)
     (.seq (.region false [⟨⟨.mv (.const (.int .i64 (.ofNat 4))), some 6, none⟩, []⟩])
     .ret)
     (.seq (.seq (.region false [⟨⟨.mv (.slot 2), some 33, none⟩, []⟩,
       ⟨⟨.len .slice (.slot 33), some 34, none⟩, []⟩,
       ⟨⟨.bin .eql 3 .num (.slot 34) (.const (.int .i64 (.ofNat 0))), some 35, none⟩, []⟩,
       ⟨⟨.mv (.slot 35), some 32, none⟩, []⟩])
     (.cond (.slot 32)
      .skip
      (.seq (.region false [⟨⟨.mv (.slot 2), some 36, none⟩, []⟩,
        ⟨⟨.call (.const (.func 68 [] [])) [(.slot 36)], some 37, none⟩, []⟩,
        ⟨⟨.mv (.slot 37), some 32, none⟩, []⟩])
      (.cond (.slot 32)
       .skip
       (.region true [⟨⟨.faddr 1 (.slot 7), some 38, none⟩, []⟩,
         ⟨⟨.load false 1 (.slot 38), some 39, none⟩, []⟩,
         ⟨⟨.mv (.slot 2), some 40, none⟩, []⟩,
         ⟨⟨.iaddr 1 (.slot 40) (.const (.int .i64 (.ofNat 0))), some 41, none⟩, []⟩,
         ⟨⟨.load false 1 (.slot 41), some 42, none⟩, []⟩,
         ⟨⟨.call (.const (.func 40 [] [])) [(.slot 39), (.slot 42)], some 43, none⟩, []⟩,
         ⟨⟨.un .not (.slot 43), some 44, none⟩, []⟩,
         ⟨⟨.mv (.slot 44), some 32, none⟩, []⟩])))))
     (.cond (.slot 32)
      (.seq (.region false [⟨⟨.mv (.const (.int .i64 (.ofNat 2))), some 6, none⟩, []⟩])
      .ret)
      .skip)))))))))
  (.seq (.seq (.region false [⟨⟨.mv (.slot 0), some 45, none⟩, []⟩,
    ⟨⟨.load true 3 (.slot 7), some 46, none⟩, []⟩,
    ⟨⟨.call (.const (.func 67 [] [])) [(.slot 45), (.slot 46)], some 47, none⟩, []⟩,
    ⟨⟨.mv (.slot 47), some 9, none⟩, []⟩])
  (.seq (.region false [⟨⟨.mv (.slot 9), some 48, none⟩, []⟩,
    ⟨⟨.bin .neq 27 .num (.slot 48) (.const (.int .i64 (.ofNat 0))), some 49, none⟩, []⟩])
  (.cond (.slot 49)
   (.seq (.region false [⟨⟨.mv (.slot 9), some 50, none⟩, []⟩,
     ⟨⟨.mv (.slot 50), some 6, none⟩, []⟩])
   .ret)
   .skip)))
  (.seq (.region true [⟨⟨.mv (.slot 0), some 51, none⟩, []⟩,
    ⟨⟨.mv (.slot 0), some 52, none⟩, []⟩,
    ⟨⟨.nilCheck (.slot 52), some 53, none⟩, []⟩,
    ⟨⟨.faddr 6 (.slot 53), some 54, none⟩, []⟩,
    ⟨⟨.load false 1 (.slot 54), some 55, none⟩, []⟩,
    ⟨⟨.mv (.slot 2), some 56, none⟩, []⟩,
    ⟨⟨.faddr 1 (.slot 7), some 58, none⟩, []⟩,
    ⟨⟨.load false 1 (.slot 58), some 59, none⟩, []⟩,
    ⟨⟨.call (.const (.func 24 [] [])) [(.slot 56)], some 57, none⟩, [⟨.load false 1 (.slot 54), some 55, none⟩, ⟨.load false 1 (.slot 58), some 59, none⟩]⟩,
    ⟨⟨.call (.const (.func 24 [] [])) [(.slot 59)], some 60, none⟩, [⟨.load false 1 (.slot 54), some 55, none⟩]⟩,
    ⟨⟨.build [.nils, .nils] [(0, 1, (.slot 57)), (1, 1, (.slot 60))], some 61, none⟩, []⟩,
    ⟨⟨.bslice 2 [.nils, .nils] [(0, 2, (.slot 61))] 1, some 62, none⟩, [⟨.load false 1 (.slot 54), some 55, none⟩]⟩,
    ⟨⟨.append 2 48 (.slot 55) (.slot 62), some 63, none⟩, []⟩,
    ⟨⟨.nilCheck (.slot 51), some 64, none⟩, []⟩,
    ⟨⟨.faddr 6 (.slot 64), some 65, none⟩, []⟩,
    ⟨⟨.store 1 (.slot 65) (.slot 63), none, none⟩, []⟩])
  (.seq (.region false [⟨⟨.mv (.slot 0), some 66, none⟩, []⟩,
    ⟨⟨.mv (.slot 1), some 67, none⟩, []⟩,
    ⟨⟨.mv (.slot 2), some 68, none⟩, []⟩,
    ⟨⟨.call (.const (.func 24 [] [])) [(.slot 68)], some 69, none⟩, []⟩,
    ⟨⟨.build [(.int .u8 (.ofNat 0)), (.int .i64 (.ofNat 0)), (.int .i64 (.ofNat 0)), (.bool false), .nils, .nils] [(0, 1, (.const (.int .u8 (.ofNat 5)))), (1, 1, (.slot 67)), (4, 1, (.slot 69))], some 70, none⟩, []⟩,
    ⟨⟨.call (.const (.func 33 [] [])) [(.slot 66), (.slot 70)], some 71, none⟩, []⟩,
    ⟨⟨.mv (.slot 71), some 6, none⟩, []⟩])
  .ret))))))),
  [.tmp 6]⟩
theorem xf46_ok : compFunc Tryz.prog Tryz.f46 = some xf46 := by kernel_rfl
/-- maps.Keys[map[int64]threshing/api.Entry,int64,threshing/api.Entry]$1 -/
def xf47 : XFunc := ⟨(.seq (.region false [⟨⟨.load false 1 (.slot 1), some 4, none⟩, []⟩,
    ⟨⟨.range .i64 (.slot 4), some 5, none⟩, []⟩])
  (.block 0 (.loop (.seq (.region false [⟨⟨.next (.slot 5), some 6, none⟩, []⟩,
     ⟨⟨.extract (.slot 6) 0, some 7, none⟩, []⟩])
   (.seq (.cond (.slot 7)
    .skip
    (.exit 0))
   (.block 1 (.seq (.region false [⟨⟨.entry (.slot 5), some 8, none⟩, []⟩,
     ⟨⟨.extract (.slot 8) 0, some 9, none⟩, []⟩,
     ⟨⟨.mv (.slot 9), some 3, none⟩, []⟩])
   (.seq (.region false [⟨⟨.mv (.slot 0), some 10, none⟩, []⟩,
     ⟨⟨.mv (.slot 3), some 11, none⟩, []⟩,
     ⟨⟨.call (.slot 10) [(.slot 11)], some 12, none⟩, []⟩,
     ⟨⟨.un .not (.slot 12), some 13, none⟩, []⟩])
   (.cond (.slot 13)
    .ret
    .skip))))))))),
  []⟩
theorem xf47_ok : compFunc Tryz.prog Tryz.f47 = some xf47 := by kernel_rfl
/-- slices.AppendSeq[[]int64,int64] -/
def xf48 : XFunc := ⟨(.seq (.region false [⟨⟨.box (.slot 0), some 2, none⟩, []⟩,
    ⟨⟨.mv (.const .nils), some 4, none⟩, []⟩])
  (.seq (.seq (.region false [⟨⟨.mv (.slot 1), some 6, none⟩, []⟩])
  (.block 0 (.rangeFunc (.slot 6) [7] (.region false [⟨⟨.mv (.slot 7), some 5, none⟩, []⟩])
  (.block 1 (.region false [⟨⟨.load false 1 (.slot 2), some 8, none⟩, []⟩,
    ⟨⟨.mv (.slot 5), some 9, none⟩, []⟩,
    ⟨⟨.bslice 1 [(.int .i64 (.ofNat 0))] [(0, 1, (.slot 9))] 1, some 10, none⟩, []⟩,
    ⟨⟨.append 1 8 (.slot 8) (.slot 10), some 11, none⟩, []⟩,
    ⟨⟨.store 1 (.slot 2) (.slot 11), none, none⟩, []⟩])))))
  (.seq (.region false [⟨⟨.load false 1 (.slot 2), some 12, none⟩, []⟩,
    ⟨⟨.mv (.slot 12), some 4, none⟩, []⟩])
  .ret))),
  [.tmp 4]⟩
theorem xf48_ok : compFunc Tryz.prog Tryz.f48 = some xf48 := by kernel_rfl
/-- maps.Keys[map[int64]bool,int64,bool]$1 -/
def xf49 : XFunc := ⟨(.seq (.region false [⟨⟨.load false 1 (.slot 1), some 4, none⟩, []⟩,
    ⟨⟨.range .i64 (.slot 4), some 5, none⟩, []⟩])
  (.block 0 (.loop (.seq (.region false [⟨⟨.next (.slot 5), some 6, none⟩, []⟩,
     ⟨⟨.extract (.slot 6) 0, some 7, none⟩, []⟩])
   (.seq (.cond (.slot 7)
    .skip
    (.exit 0))
   (.block 1 (.seq (.region false [⟨⟨.entry (.slot 5), some 8, none⟩, []⟩,
     ⟨⟨.extract (.slot 8) 0, some 9, none⟩, []⟩,
     ⟨⟨.mv (.slot 9), some 3, none⟩, []⟩])
   (.seq (.region false [⟨⟨.mv (.slot 0), some 10, none⟩, []⟩,
     ⟨⟨.mv (.slot 3), some 11, none⟩, []⟩,
     ⟨⟨.call (.slot 10) [(.slot 11)], some 12, none⟩, []⟩,
     ⟨⟨.un .not (.slot 12), some 13, none⟩, []⟩])
   (.cond (.slot 13)
    .ret
    .skip))))))))),
  []⟩
theorem xf49_ok : compFunc Tryz.prog Tryz.f49 = some xf49 := by kernel_rfl
/-- slices.ContainsFunc[threshing/api.Clause,threshing/api.Lit] -/
def xf50 : XFunc := ⟨(.seq (.region false [⟨⟨.mv (.const (.bool false)), some 4, none⟩, []⟩])
  (.seq (.region false [⟨⟨.mv (.slot 0), some 5, none⟩, []⟩,
    ⟨⟨.mv (.slot 1), some 6, none⟩, []⟩,
    ⟨⟨.call (.const (.func 69 [] [])) [(.slot 5), (.slot 6)], some 7, none⟩, []⟩,
    ⟨⟨.bin .geq 3 .num (.slot 7) (.const (.int .i64 (.ofNat 0))), some 8, none⟩, []⟩,
    ⟨⟨.mv (.slot 8), some 4, none⟩, []⟩])
  .ret)),
  [.tmp 4]⟩
theorem xf50_ok : compFunc Tryz.prog Tryz.f50 = some xf50 := by kernel_rfl
/-- (*threshing/base.Base).right$1 -/
def xf51 : XFunc := ⟨(.seq (.region false [⟨⟨.mv (.const (.bool false)), some 3, none⟩, []⟩])
  (.seq (.region true [⟨⟨.mv (.slot 0), some 4, none⟩, []⟩,
    ⟨⟨.bin .eql 24 .num (.slot 4) (.const (.int .i32 (.ofNat 0))), some 5, none⟩, []⟩,
    ⟨⟨.mv (.slot 5), some 6, none⟩, []⟩,
    ⟨⟨.mv (.slot 0), some 7, some (6, false)⟩, []⟩,
    ⟨⟨.load false 1 (.slot 1), some 9, some (6, false)⟩, []⟩,
    ⟨⟨.nilCheck (.slot 9), some 10, some (6, false)⟩, []⟩,
    ⟨⟨.faddr 0 (.slot 10), some 11, some (6, false)⟩, []⟩,
    ⟨⟨.load false 1 (.slot 11), some 12, some (6, false)⟩, []⟩,
    ⟨⟨.call (.const (.func 52 [] [])) [(.slot 7)], some 8, some (6, false)⟩, [⟨.load false 1 (.slot 1), some 9, some (6, false)⟩, ⟨.load false 1 (.slot 11), some 12, some (6, false)⟩]⟩,
    ⟨⟨.bin .gtr 3 .num (.slot 8) (.slot 12), some 13, some (6, false)⟩, []⟩,
    ⟨⟨.pick (.slot 6) (.const (.bool true)) (.slot 13), some 14, none⟩, []⟩,
    ⟨⟨.mv (.slot 14), some 3, none⟩, []⟩])
  .ret)),
  [.tmp 3]⟩
theorem xf51_ok : compFunc Tryz.prog Tryz.f51 = some xf51 := by kernel_rfl
/-- threshing/cnf.Var -/
def xf52 : XFunc := ⟨(.seq (.region false [⟨⟨.mv (.const (.int .i64 (.ofNat 0))), some 2, none⟩, []⟩])
  (.seq (.region false [⟨⟨.mv (.slot 0), some 3, none⟩, []⟩,
    ⟨⟨.call (.const (.func 70 [] [])) [(.slot 3)], some 4, none⟩, []⟩,
    ⟨⟨.mv (.slot 4), some 2, none⟩, []⟩])
  .ret)),
  [.tmp 2]⟩
theorem xf52_ok : compFunc Tryz.prog Tryz.f52 = some xf52 := by kernel_rfl
/-- (*threshing/base.Base).follows$1 -/
def xf53 : XFunc := ⟨(.seq (.region false [⟨⟨.mv (.const (.bool false)), some 3, none⟩, []⟩])
  (.seq (.region false [⟨⟨.load false 1 (.slot 1), some 4, none⟩, []⟩,
    ⟨⟨.mv (.slot 0), some 5, none⟩, []⟩,
    ⟨⟨.mapup .i32 (.slot 4) (.slot 5) (.const (.bool true)), none, none⟩, []⟩])
  (.seq (.region false [⟨⟨.load false 1 (.slot 1), some 6, none⟩, []⟩,
    ⟨⟨.mv (.slot 0), some 7, none⟩, []⟩,
    ⟨⟨.un .neg (.slot 7), some 8, none⟩, []⟩,
    ⟨⟨.lookup .i32 (.bool false) (.slot 6) (.slot 8) false, some 9, none⟩, []⟩,
    ⟨⟨.mv (.slot 9), some 3, none⟩, []⟩])
  .ret))),
  [.tmp 3]⟩
theorem xf53_ok : compFunc Tryz.prog Tryz.f53 = some xf53 := by kernel_rfl
/-- threshing/gates.of -/
def xf54 : XFunc := ⟨(.seq (.region false [⟨⟨.mv (.const .nilp), some 4, none⟩, []⟩])
  (.seq (.region false [⟨⟨.mv (.slot 0), some 17, none⟩, []⟩,
    ⟨⟨.mv (.slot 1), some 18, none⟩, []⟩,
    ⟨⟨.build [.nilp, (.int .i32 (.ofNat 0)), .nils, .nils] [(0, 1, (.slot 17)), (1, 1, (.slot 18))], some 19, none⟩, []⟩,
    ⟨⟨.box (.slot 19), some 20, none⟩, []⟩,
    ⟨⟨.mv (.slot 20), some 5, none⟩, []⟩])
  (.seq (.region false [⟨⟨.mv (.slot 0), some 21, none⟩, []⟩,
    ⟨⟨.mv (.slot 1), some 22, none⟩, []⟩,
    ⟨⟨.call (.const (.func 10 [] [])) [(.slot 21), (.slot 22)], some 23, none⟩, []⟩,
    ⟨⟨.mv (.slot 0), some 24, none⟩, []⟩,
    ⟨⟨.mv (.slot 1), some 25, none⟩, []⟩,
    ⟨⟨.un .neg (.slot 25), some 26, none⟩, []⟩,
    ⟨⟨.call (.const (.func 10 [] [])) [(.slot 24), (.slot 26)], some 27, none⟩, []⟩,
    ⟨⟨.bslice 1 [.nils, .nils] [(0, 1, (.slot 23)), (1, 1, (.slot 27))] 2, some 28, none⟩, []⟩,
    ⟨⟨.call (.const (.func 42 [] [])) [(.slot 28)], some 29, none⟩, []⟩,
    ⟨⟨.mv (.slot 29), some 6, none⟩, []⟩])
  (.seq (.region false [⟨⟨.mv (.slot 6), some 30, none⟩, []⟩,
    ⟨⟨.call (.const (.func 43 [] [])) [(.slot 30)], some 31, none⟩, []⟩])
  (.seq (.region false [⟨⟨.mv (.const .nils), some 7, none⟩, []⟩])
  (.seq (.seq (.region false [⟨⟨.mv (.slot 6), some 32, none⟩, []⟩,
    ⟨⟨.call (.const (.func 44 [] [])) [(.slot 32)], some 33, none⟩, []⟩,
    ⟨⟨.len .slice (.slot 33), some 34, none⟩, []⟩,
    ⟨⟨.mv (.const (.int .i64 (.ofNat 0))), some 35, none⟩, []⟩])
  (.block 0 (.loop (.seq (.region false [⟨⟨.bin .lss 3 .num (.slot 35) (.slot 34), some 36, none⟩, []⟩])
   (.seq (.cond (.slot 36)
    .skip
    (.exit 0))
   (.seq (.block 1 (.seq (.region false [⟨⟨.iaddr 1 (.slot 33) (.slot 35), some 37, none⟩, []⟩,
     ⟨⟨.load false 1 (.slot 37), some 38, none⟩, []⟩,
     ⟨⟨.mv (.slot 38), some 9, none⟩, []⟩])
   (.seq (.region false [⟨⟨.mv (.slot 0), some 40, none⟩, []⟩,
     ⟨⟨.mv (.slot 9), some 41, none⟩, []⟩,
     ⟨⟨.call (.const (.func 12 [] [])) [(.slot 40), (.slot 41)], some 42, none⟩, []⟩,
     ⟨⟨.mv (.slot 42), some 39, none⟩, []⟩,
     ⟨⟨.extract (.slot 39) 0, some 43, none⟩, []⟩,
     ⟨⟨.extract (.slot 39) 1, some 44, none⟩, []⟩,
     ⟨⟨.alloc [(.int .i64 (.ofNat 0)), .nils, (.bool false)], some 10, none⟩, []⟩,
     ⟨⟨.store 3 (.slot 10) (.slot 43), none, none⟩, []⟩,
     ⟨⟨.mv (.slot 44), some 11, none⟩, []⟩])
   (.seq (.seq (.region false [⟨⟨.faddr 2 (.slot 10), some 45, none⟩, []⟩,
     ⟨⟨.load false 1 (.slot 45), some 46, none⟩, []⟩])
   (.cond (.slot 46)
    (.exit 1)
    .skip))
   (.seq (.region true [⟨⟨.mv (.slot 5), some 47, none⟩, []⟩,
     ⟨⟨.mv (.slot 5), some 48, none⟩, []⟩,
     ⟨⟨.nilCheck (.slot 48), some 49, none⟩, []⟩,
     ⟨⟨.faddr 2 (.slot 49), some 50, none⟩, []⟩,
     ⟨⟨.load false 1 (.slot 50), some 51, none⟩, []⟩,
     ⟨⟨.load true 3 (.slot 10), some 52, none⟩, []⟩,
     ⟨⟨.bslice 3 [(.int .i64 (.ofNat 0)), .nils, (.bool false)] [(0, 3, (.slot 52))] 1, some 53, none⟩, [⟨.load false 1 (.slot 50), some 51, none⟩]⟩,
     ⟨⟨.append 3 40 (.slot 51) (.slot 53), some 54, none⟩, []⟩,
     ⟨⟨.nilCheck (.slot 47), some 55, none⟩, []⟩,
     ⟨⟨.faddr 2 (.slot 55), some 56, none⟩, []⟩,
     ⟨⟨.store 1 (.slot 56) (.slot 54), none, none⟩, []⟩])
   (.seq (.region false [⟨⟨.faddr 1 (.slot 10), some 57, none⟩, []⟩,
     ⟨⟨.load false 1 (.slot 57), some 58, none⟩, []⟩,
     ⟨⟨.len .slice (.slot 58), some 59, none⟩, []⟩,
     ⟨⟨.mv (.const (.int .i64 (.ofNat 0))), some 60, none⟩, []⟩])
   (.block 2 (.loop (.seq (.region false [⟨⟨.bin .lss 3 .num (.slot 60) (.slot 59), some 61, none⟩, []⟩])
    (.seq (.cond (.slot 61)
     .skip
     (.exit 2))
    (.seq (.block 3 (.seq (.region false [⟨⟨.iaddr 1 (.slot 58) (.slot 60), some 62, none⟩, []⟩,
      ⟨⟨.load false 1 (.slot 62), some 63, none⟩, []⟩,
      ⟨⟨.mv (.slot 63), some 13, none⟩, []⟩])
    (.region false [⟨⟨.mv (.slot 7), some 64, none⟩, []⟩,
      ⟨⟨.mv (.slot 13), some 65, none⟩, []⟩,
      ⟨⟨.call (.const (.func 52 [] [])) [(.slot 65)], some 66, none⟩, []⟩,
      ⟨⟨.bslice 1 [(.int .i64 (.ofNat 0))] [(0, 1, (.slot 66))] 1, some 67, none⟩, []⟩,
      ⟨⟨.append 1 8 (.slot 64) (.slot 67), some 68, none⟩, []⟩,
      ⟨⟨.mv (.slot 68), some 7, none⟩, []⟩])))
    (.region false [⟨⟨.bin .add 3 .num (.slot 60) (.const (.int .i64 (.ofNat 1))), some 69, none⟩, []⟩,
      ⟨⟨.mv (.slot 69), some 60, none⟩, []⟩]))))))))))))
   (.region false [⟨⟨.bin .add 3 .num (.slot 35) (.const (.int .i64 (.ofNat 1))), some 70, none⟩, []⟩,
     ⟨⟨.mv (.slot 70), some 35, none⟩, []⟩])))))))
  (.seq (.region false [⟨⟨.mv (.slot 7), some 71, none⟩, []⟩,
    ⟨⟨.call (.const (.func 71 [] [])) [(.slot 71)], some 72, none⟩, []⟩])
  (.seq (.seq (.region false [⟨⟨.mv (.slot 7), some 73, none⟩, []⟩,
    ⟨⟨.call (.const (.func 72 [] [])) [(.slot 73)], some 74, none⟩, []⟩,
    ⟨⟨.len .slice (.slot 74), some 75, none⟩, []⟩,
    ⟨⟨.mv (.const (.int .i64 (.ofNat 0))), some 76, none⟩, []⟩])
  (.block 4 (.loop (.seq (.region false [⟨⟨.bin .lss 3 .num (.slot 76) (.slot 75), some 77, none⟩, []⟩])
   (.seq (.cond (.slot 77)
    .skip
    (.exit 4))
   (.seq (.block 5 (.seq (.region false [⟨⟨.iaddr 1 (.slot 74) (.slot 76), some 78, none⟩, []⟩,
     ⟨⟨.load false 1 (.slot 78), some 79, none⟩, []⟩,
     ⟨⟨.mv (.slot 79), some 15, none⟩, []⟩])
   (.seq (.region false [⟨⟨.mv (.slot 15), some 80, none⟩, []⟩,
     ⟨⟨.conv .i32 (.slot 80), some 81, none⟩, []⟩,
     ⟨⟨.mv (.slot 81), some 16, none⟩, []⟩])
   (.seq (.region false [⟨⟨.mv (.slot 16), some 82, none⟩, []⟩,
     ⟨⟨.mv (.slot 1), some 83, none⟩, []⟩,
     ⟨⟨.bin .neq 24 .num (.slot 82) (.slot 83), some 84, none⟩, []⟩])
   (.cond (.slot 84)
    (.region false [⟨⟨.mv (.slot 5), some 85, none⟩, []⟩,
      ⟨⟨.mv (.slot 5), some 86, none⟩, []⟩,
      ⟨⟨.nilCheck (.slot 86), some 87, none⟩, []⟩,
      ⟨⟨.faddr 3 (.slot 87), some 88, none⟩, []⟩,
      ⟨⟨.load false 1 (.slot 88), some 89, none⟩, []⟩,
      ⟨⟨.mv (.slot 16), some 90, none⟩, []⟩,
      ⟨⟨.un .neg (.slot 90), some 91, none⟩, []⟩,
      ⟨⟨.mv (.slot 16), some 92, none⟩, []⟩,
      ⟨⟨.bslice 1 [(.int .i32 (.ofNat 0)), (.int .i32 (.ofNat 0))] [(0, 1, (.slot 91)), (1, 1, (.slot 92))] 2, some 93, none⟩, []⟩,
      ⟨⟨.append 1 4 (.slot 89) (.slot 93), some 94, none⟩, []⟩,
      ⟨⟨.nilCheck (.slot 85), some 95, none⟩, []⟩,
      ⟨⟨.faddr 3 (.slot 95), some 96, none⟩, []⟩,
      ⟨⟨.store 1 (.slot 96) (.slot 94), none, none⟩, []⟩])
    .skip)))))
   (.region false [⟨⟨.bin .add 3 .num (.slot 76) (.const (.int .i64 (.ofNat 1))), some 97, none⟩, []⟩,
     ⟨⟨.mv (.slot 97), some 76, none⟩, []⟩])))))))
  (.seq (.region false [⟨⟨.mv (.slot 5), some 98, none⟩, []⟩,
    ⟨⟨.mv (.slot 98), some 4, none⟩, []⟩])
  .ret))))))))),
  [.tmp 4]⟩
theorem xf54_ok : compFunc Tryz.prog Tryz.f54 = some xf54 := by kernel_rfl
end Go.Proofs.YtdceckhkmfbpmaaGreat

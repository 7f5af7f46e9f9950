/- The functions of the program in X's code, printed by a program of ours; each is what the program's own is turned to. -/
import Derived.Test.YtfcafnbpkapikaaGreatProg
import Derived.Test.YtfcafnbpkapikaaGreatXc
import Derived.KernelRfl
namespace Go.Proofs.YtfcafnbpkapikaaGreat
open Go.Xr
/-- slices.Sorted[int64] -/
def xf21 : XFunc := ⟨(.seq (.region false [⟨⟨.mv (.const .nils), some 2, none⟩, []⟩])
  (.seq (.region false [⟨⟨.mv (.slot 0), some 4, none⟩, []⟩,
    ⟨⟨.call (.const (.func 24 [] [])) [(.slot 4)], some 5, none⟩, []⟩,
    ⟨⟨.mv (.slot 5), some 3, none⟩, []⟩])
  (.seq (.region false [⟨⟨.mv (.slot 3), some 6, none⟩, []⟩,
    ⟨⟨.call (.const (.func 40 [] [])) [(.slot 6)], some 7, none⟩, []⟩])
  (.seq (.region false [⟨⟨.mv (.slot 3), some 8, none⟩, []⟩,
    ⟨⟨.mv (.slot 8), some 2, none⟩, []⟩])
  .ret)))),
  [.tmp 2]⟩
theorem xf21_ok : compFunc Tryz.prog Tryz.f21 = some xf21 := by kernel_rfl
/-- maps.Keys[map[int64]threshing/api.Entry,int64,threshing/api.Entry] -/
def xf22 : XFunc := ⟨(.seq (.region false [⟨⟨.box (.slot 0), some 1, none⟩, []⟩,
    ⟨⟨.mv (.const .nilf), some 2, none⟩, []⟩])
  (.seq (.region false [⟨⟨.mkfunc 41 [] [(.slot 1)], some 3, none⟩, []⟩,
    ⟨⟨.mv (.slot 3), some 2, none⟩, []⟩])
  .ret)),
  [.tmp 2]⟩
theorem xf22_ok : compFunc Tryz.prog Tryz.f22 = some xf22 := by kernel_rfl
/-- slices.Min[[]int64,int64] -/
def xf23 : XFunc := ⟨(.seq (.region false [⟨⟨.mv (.const (.int .i64 (.ofNat 0))), some 2, none⟩, []⟩])
  (.seq (.seq (.region false [⟨⟨.mv (.slot 0), some 5, none⟩, []⟩,
    ⟨⟨.len .slice (.slot 5), some 6, none⟩, []⟩,
    ⟨⟨.bin .lss 3 .num (.slot 6) (.const (.int .i64 (.ofNat 1))), some 7, none⟩, []⟩])
  (.cond (.slot 7)
   (.region false [⟨⟨.mkif 9 (.const (.str ⟨⟨[115, 108, 105, 99, 101, 115, 46, 77, 105, 110, 58, 32, 101, 109, 112, 116, 121, 32, 108, 105, 115, 116]⟩⟩)), some 8, none⟩, []⟩,
     ⟨⟨.bad, none, none⟩, []⟩])
   .skip))
  (.seq (.region false [⟨⟨.mv (.slot 0), some 9, none⟩, []⟩,
    ⟨⟨.iaddr 1 (.slot 9) (.const (.int .i64 (.ofNat 0))), some 10, none⟩, []⟩,
    ⟨⟨.load false 1 (.slot 10), some 11, none⟩, []⟩,
    ⟨⟨.mv (.slot 11), some 3, none⟩, []⟩])
  (.seq (.seq (.region false [⟨⟨.mv (.const (.int .i64 (.ofNat 1))), some 4, none⟩, []⟩])
  (.block 0 (.loop (.seq (.seq (.region false [⟨⟨.mv (.slot 4), some 12, none⟩, []⟩,
     ⟨⟨.mv (.slot 0), some 13, none⟩, []⟩,
     ⟨⟨.len .slice (.slot 13), some 14, none⟩, []⟩,
     ⟨⟨.bin .lss 3 .num (.slot 12) (.slot 14), some 15, none⟩, []⟩])
   (.cond (.slot 15)
    .skip
    (.exit 0)))
   (.seq (.block 1 (.region false [⟨⟨.mv (.slot 3), some 18, none⟩, []⟩,
     ⟨⟨.mv (.slot 0), some 19, none⟩, []⟩,
     ⟨⟨.mv (.slot 4), some 20, none⟩, []⟩,
     ⟨⟨.iaddr 1 (.slot 19) (.slot 20), some 21, none⟩, []⟩,
     ⟨⟨.load false 1 (.slot 21), some 22, none⟩, []⟩,
     ⟨⟨.minmax true (.slot 18) (.slot 22), some 23, none⟩, []⟩,
     ⟨⟨.mv (.slot 23), some 3, none⟩, []⟩]))
   (.region false [⟨⟨.mv (.slot 4), some 16, none⟩, []⟩,
     ⟨⟨.bin .add 3 .num (.slot 16) (.const (.int .i64 (.ofNat 1))), some 17, none⟩, []⟩,
     ⟨⟨.mv (.slot 17), some 4, none⟩, []⟩]))))))
  (.seq (.region false [⟨⟨.mv (.slot 3), some 24, none⟩, []⟩,
    ⟨⟨.mv (.slot 24), some 2, none⟩, []⟩])
  .ret))))),
  [.tmp 2]⟩
theorem xf23_ok : compFunc Tryz.prog Tryz.f23 = some xf23 := by kernel_rfl
/-- slices.Collect[int64] -/
def xf24 : XFunc := ⟨(.seq (.region false [⟨⟨.mv (.const .nils), some 2, none⟩, []⟩])
  (.seq (.region false [⟨⟨.mv (.slot 0), some 3, none⟩, []⟩,
    ⟨⟨.call (.const (.func 42 [] [])) [(.const .nils), (.slot 3)], some 4, none⟩, []⟩,
    ⟨⟨.mv (.slot 4), some 2, none⟩, []⟩])
  .ret)),
  [.tmp 2]⟩
theorem xf24_ok : compFunc Tryz.prog Tryz.f24 = some xf24 := by kernel_rfl
/-- maps.Keys[map[int64]bool,int64,bool] -/
def xf25 : XFunc := ⟨(.seq (.region false [⟨⟨.box (.slot 0), some 1, none⟩, []⟩,
    ⟨⟨.mv (.const .nilf), some 2, none⟩, []⟩])
  (.seq (.region false [⟨⟨.mkfunc 43 [] [(.slot 1)], some 3, none⟩, []⟩,
    ⟨⟨.mv (.slot 3), some 2, none⟩, []⟩])
  .ret)),
  [.tmp 2]⟩
theorem xf25_ok : compFunc Tryz.prog Tryz.f25 = some xf25 := by kernel_rfl
/-- threshing/cnf.Right -/
def xf26 : XFunc := ⟨(.seq (.region false [⟨⟨.box (.slot 0), some 1, none⟩, []⟩,
    ⟨⟨.mv (.const (.int .i64 (.ofNat 0))), some 2, none⟩, []⟩])
  (.seq (.block 0 (.seq (.seq (.region false [⟨⟨.faddr 0 (.slot 1), some 9, none⟩, []⟩,
    ⟨⟨.load false 1 (.slot 9), some 10, none⟩, []⟩,
    ⟨⟨.bin .lss 3 .num (.slot 10) (.const (.int .i64 (.ofNat 0))), some 11, none⟩, []⟩,
    ⟨⟨.mv (.slot 11), some 8, none⟩, []⟩])
  (.cond (.slot 8)
   .skip
   (.region false [⟨⟨.faddr 0 (.slot 1), some 12, none⟩, []⟩,
     ⟨⟨.load false 1 (.slot 12), some 13, none⟩, []⟩,
     ⟨⟨.bin .gtr 3 .num (.slot 13) (.const (.int .i64 (.ofNat 1048576))), some 14, none⟩, []⟩,
     ⟨⟨.mv (.slot 14), some 8, none⟩, []⟩])))
  (.cond (.slot 8)
   (.seq (.region false [⟨⟨.mv (.const (.int .i64 (.ofNat 2))), some 2, none⟩, []⟩])
   .ret)
   (.seq (.region false [⟨⟨.faddr 1 (.slot 1), some 16, none⟩, []⟩,
     ⟨⟨.load false 1 (.slot 16), some 17, none⟩, []⟩,
     ⟨⟨.len .slice (.slot 17), some 18, none⟩, []⟩,
     ⟨⟨.bin .gtr 3 .num (.slot 18) (.const (.int .i64 (.ofNat 1048576))), some 19, none⟩, []⟩,
     ⟨⟨.mv (.slot 19), some 15, none⟩, []⟩])
   (.cond (.slot 15)
    (.seq (.region false [⟨⟨.mv (.const (.int .i64 (.ofNat 3))), some 2, none⟩, []⟩])
    .ret)
    .skip)))))
  (.seq (.region false [⟨⟨.mv (.const (.int .i64 (.ofNat 16777216))), some 3, none⟩, []⟩])
  (.seq (.seq (.region false [⟨⟨.faddr 1 (.slot 1), some 20, none⟩, []⟩,
    ⟨⟨.load false 1 (.slot 20), some 21, none⟩, []⟩,
    ⟨⟨.len .slice (.slot 21), some 22, none⟩, []⟩,
    ⟨⟨.mv (.const (.int .i64 (.ofNat 0))), some 23, none⟩, []⟩])
  (.block 1 (.loop (.seq (.region false [⟨⟨.bin .lss 3 .num (.slot 23) (.slot 22), some 24, none⟩, []⟩])
   (.seq (.cond (.slot 24)
    .skip
    (.exit 1))
   (.seq (.block 2 (.seq (.region false [⟨⟨.iaddr 1 (.slot 21) (.slot 23), some 25, none⟩, []⟩,
     ⟨⟨.load false 1 (.slot 25), some 26, none⟩, []⟩,
     ⟨⟨.mv (.slot 26), some 5, none⟩, []⟩])
   (.seq (.region false [⟨⟨.mv (.slot 5), some 27, none⟩, []⟩,
     ⟨⟨.len .slice (.slot 27), some 28, none⟩, []⟩,
     ⟨⟨.mv (.const (.int .i64 (.ofNat 0))), some 29, none⟩, []⟩])
   (.block 3 (.loop (.seq (.region false [⟨⟨.bin .lss 3 .num (.slot 29) (.slot 28), some 30, none⟩, []⟩])
    (.seq (.cond (.slot 30)
     .skip
     (.exit 3))
    (.seq (.block 4 (.seq (.region false [⟨⟨.iaddr 1 (.slot 27) (.slot 29), some 31, none⟩, []⟩,
      ⟨⟨.load false 1 (.slot 31), some 32, none⟩, []⟩,
      ⟨⟨.mv (.slot 32), some 7, none⟩, []⟩])
    (.seq (.seq (.region false [⟨⟨.mv (.slot 3), some 33, none⟩, []⟩,
      ⟨⟨.bin .eql 3 .num (.slot 33) (.const (.int .i64 (.ofNat 0))), some 34, none⟩, []⟩])
    (.cond (.slot 34)
     (.seq (.region false [⟨⟨.mv (.const (.int .i64 (.ofNat 3))), some 2, none⟩, []⟩])
     .ret)
     .skip))
    (.seq (.region false [⟨⟨.mv (.slot 3), some 35, none⟩, []⟩,
      ⟨⟨.bin .sub 3 .num (.slot 35) (.const (.int .i64 (.ofNat 1))), some 36, none⟩, []⟩,
      ⟨⟨.mv (.slot 36), some 3, none⟩, []⟩])
    (.seq (.region true [⟨⟨.mv (.slot 7), some 37, none⟩, []⟩,
      ⟨⟨.bin .eql 24 .num (.slot 37) (.const (.int .i32 (.ofNat 0))), some 38, none⟩, []⟩,
      ⟨⟨.mv (.slot 38), some 39, none⟩, []⟩,
      ⟨⟨.mv (.slot 7), some 40, some (39, false)⟩, []⟩,
      ⟨⟨.faddr 0 (.slot 1), some 42, some (39, false)⟩, []⟩,
      ⟨⟨.load false 1 (.slot 42), some 43, some (39, false)⟩, []⟩,
      ⟨⟨.call (.const (.func 28 [] [])) [(.slot 40)], some 41, some (39, false)⟩, [⟨.load false 1 (.slot 42), some 43, some (39, false)⟩]⟩,
      ⟨⟨.bin .gtr 3 .num (.slot 41) (.slot 43), some 44, some (39, false)⟩, []⟩,
      ⟨⟨.pick (.slot 39) (.const (.bool true)) (.slot 44), some 45, none⟩, []⟩])
    (.cond (.slot 45)
     (.seq (.region false [⟨⟨.mv (.const (.int .i64 (.ofNat 4))), some 2, none⟩, []⟩])
     .ret)
     .skip))))))
    (.region false [⟨⟨.bin .add 3 .num (.slot 29) (.const (.int .i64 (.ofNat 1))), some 46, none⟩, []⟩,
      ⟨⟨.mv (.slot 46), some 29, none⟩, []⟩])))))))))
   (.region false [⟨⟨.bin .add 3 .num (.slot 23) (.const (.int .i64 (.ofNat 1))), some 47, none⟩, []⟩,
     ⟨⟨.mv (.slot 47), some 23, none⟩, []⟩])))))))
  (.seq (.region false [⟨⟨.mv (.const (.int .i64 (.ofNat 0))), some 2, none⟩, []⟩])
  .ret))))),
  [.tmp 2]⟩
theorem xf26_ok : compFunc Tryz.prog Tryz.f26 = some xf26 := by kernel_rfl
/-- (*threshing/base.Base).put -/
def xf27 : XFunc := ⟨(.seq (.region false [⟨⟨.mv (.slot 0), some 8, none⟩, []⟩,
    ⟨⟨.nilCheck (.slot 8), some 9, none⟩, []⟩,
    ⟨⟨.faddr 4 (.slot 9), some 10, none⟩, []⟩,
    ⟨⟨.load false 1 (.slot 10), some 11, none⟩, []⟩,
    ⟨⟨.bin .add 2 .num (.slot 11) (.const (.int .i64 (.ofNat 1))), some 12, none⟩, []⟩,
    ⟨⟨.nilCheck (.slot 8), some 13, none⟩, []⟩,
    ⟨⟨.faddr 4 (.slot 13), some 14, none⟩, []⟩,
    ⟨⟨.store 1 (.slot 14) (.slot 12), none, none⟩, []⟩])
  (.seq (.region true [⟨⟨.mv (.slot 0), some 15, none⟩, []⟩,
    ⟨⟨.nilCheck (.slot 15), some 16, none⟩, []⟩,
    ⟨⟨.faddr 1 (.slot 16), some 17, none⟩, []⟩,
    ⟨⟨.load false 1 (.slot 17), some 18, none⟩, []⟩,
    ⟨⟨.mv (.slot 0), some 19, none⟩, []⟩,
    ⟨⟨.nilCheck (.slot 19), some 20, none⟩, []⟩,
    ⟨⟨.faddr 4 (.slot 20), some 21, none⟩, []⟩,
    ⟨⟨.load false 1 (.slot 21), some 22, none⟩, []⟩,
    ⟨⟨.mv (.slot 0), some 23, none⟩, []⟩,
    ⟨⟨.nilCheck (.slot 23), some 24, none⟩, []⟩,
    ⟨⟨.faddr 4 (.slot 24), some 25, none⟩, []⟩,
    ⟨⟨.load false 1 (.slot 25), some 26, none⟩, []⟩,
    ⟨⟨.mv (.slot 1), some 27, none⟩, []⟩,
    ⟨⟨.mv (.slot 2), some 29, none⟩, []⟩,
    ⟨⟨.call (.const (.func 39 [] [])) [(.slot 27)], some 28, none⟩, [⟨.load false 1 (.slot 17), some 18, none⟩, ⟨.load false 1 (.slot 21), some 22, none⟩, ⟨.load false 1 (.slot 25), some 26, none⟩]⟩,
    ⟨⟨.build [(.int .i64 (.ofNat 0)), .nils, (.bool false)] [(0, 1, (.slot 26)), (1, 1, (.slot 28)), (2, 1, (.slot 29))], some 30, none⟩, []⟩,
    ⟨⟨.mapup .i64 (.slot 18) (.slot 22) (.slot 30), none, none⟩, []⟩])
  (.seq (.seq (.region false [⟨⟨.mv (.slot 1), some 31, none⟩, []⟩,
    ⟨⟨.len .slice (.slot 31), some 32, none⟩, []⟩,
    ⟨⟨.bin .eql 3 .num (.slot 32) (.const (.int .i64 (.ofNat 0))), some 33, none⟩, []⟩])
  (.cond (.slot 33)
   (.region true [⟨⟨.mv (.slot 0), some 34, none⟩, []⟩,
     ⟨⟨.nilCheck (.slot 34), some 35, none⟩, []⟩,
     ⟨⟨.faddr 3 (.slot 35), some 36, none⟩, []⟩,
     ⟨⟨.load false 1 (.slot 36), some 37, none⟩, []⟩,
     ⟨⟨.mv (.slot 0), some 38, none⟩, []⟩,
     ⟨⟨.nilCheck (.slot 38), some 39, none⟩, []⟩,
     ⟨⟨.faddr 4 (.slot 39), some 40, none⟩, []⟩,
     ⟨⟨.load false 1 (.slot 40), some 41, none⟩, []⟩,
     ⟨⟨.mapup .i64 (.slot 37) (.slot 41) (.const (.bool true)), none, none⟩, []⟩])
   .skip))
  (.seq (.region false [⟨⟨.mv (.slot 1), some 42, none⟩, []⟩,
    ⟨⟨.len .slice (.slot 42), some 43, none⟩, []⟩,
    ⟨⟨.mv (.const (.int .i64 (.ofNat 0))), some 44, none⟩, []⟩])
  (.block 0 (.loop (.seq (.region false [⟨⟨.bin .lss 3 .num (.slot 44) (.slot 43), some 45, none⟩, []⟩])
   (.seq (.cond (.slot 45)
    .skip
    (.exit 0))
   (.seq (.block 1 (.seq (.region false [⟨⟨.iaddr 1 (.slot 42) (.slot 44), some 46, none⟩, []⟩,
     ⟨⟨.load false 1 (.slot 46), some 47, none⟩, []⟩,
     ⟨⟨.mv (.slot 47), some 7, none⟩, []⟩])
   (.seq (.seq (.region false [⟨⟨.mv (.slot 0), some 48, none⟩, []⟩,
     ⟨⟨.nilCheck (.slot 48), some 49, none⟩, []⟩,
     ⟨⟨.faddr 2 (.slot 49), some 50, none⟩, []⟩,
     ⟨⟨.load false 1 (.slot 50), some 51, none⟩, []⟩,
     ⟨⟨.mv (.slot 7), some 52, none⟩, []⟩,
     ⟨⟨.lookup .i32 .nilm (.slot 51) (.slot 52) false, some 53, none⟩, []⟩,
     ⟨⟨.bin .eql 62 .map (.slot 53) (.const .nilm), some 54, none⟩, []⟩])
   (.cond (.slot 54)
    (.region false [⟨⟨.mv (.slot 0), some 55, none⟩, []⟩,
      ⟨⟨.nilCheck (.slot 55), some 56, none⟩, []⟩,
      ⟨⟨.faddr 2 (.slot 56), some 57, none⟩, []⟩,
      ⟨⟨.load false 1 (.slot 57), some 58, none⟩, []⟩,
      ⟨⟨.mv (.slot 7), some 59, none⟩, []⟩,
      ⟨⟨.mkmap .i64, some 60, none⟩, []⟩,
      ⟨⟨.mapup .i32 (.slot 58) (.slot 59) (.slot 60), none, none⟩, []⟩])
    .skip))
   (.region true [⟨⟨.mv (.slot 0), some 61, none⟩, []⟩,
     ⟨⟨.nilCheck (.slot 61), some 62, none⟩, []⟩,
     ⟨⟨.faddr 2 (.slot 62), some 63, none⟩, []⟩,
     ⟨⟨.load false 1 (.slot 63), some 64, none⟩, []⟩,
     ⟨⟨.mv (.slot 7), some 65, none⟩, []⟩,
     ⟨⟨.lookup .i32 .nilm (.slot 64) (.slot 65) false, some 66, none⟩, []⟩,
     ⟨⟨.mv (.slot 0), some 67, none⟩, []⟩,
     ⟨⟨.nilCheck (.slot 67), some 68, none⟩, []⟩,
     ⟨⟨.faddr 4 (.slot 68), some 69, none⟩, []⟩,
     ⟨⟨.load false 1 (.slot 69), some 70, none⟩, []⟩,
     ⟨⟨.mapup .i64 (.slot 66) (.slot 70) (.const (.bool true)), none, none⟩, []⟩]))))
   (.region false [⟨⟨.bin .add 3 .num (.slot 44) (.const (.int .i64 (.ofNat 1))), some 71, none⟩, []⟩,
     ⟨⟨.mv (.slot 71), some 44, none⟩, []⟩])))))))))),
  []⟩
theorem xf27_ok : compFunc Tryz.prog Tryz.f27 = some xf27 := by kernel_rfl
/-- threshing/cnf.Var -/
def xf28 : XFunc := ⟨(.seq (.region false [⟨⟨.mv (.const (.int .i64 (.ofNat 0))), some 2, none⟩, []⟩])
  (.seq (.region false [⟨⟨.mv (.slot 0), some 3, none⟩, []⟩,
    ⟨⟨.call (.const (.func 44 [] [])) [(.slot 3)], some 4, none⟩, []⟩,
    ⟨⟨.mv (.slot 4), some 2, none⟩, []⟩])
  .ret)),
  [.tmp 2]⟩
theorem xf28_ok : compFunc Tryz.prog Tryz.f28 = some xf28 := by kernel_rfl
/-- threshing/cnf.Normal -/
def xf29 : XFunc := ⟨(.seq (.region false [⟨⟨.mv (.const .nils), some 2, none⟩, []⟩,
    ⟨⟨.mv (.const (.bool false)), some 3, none⟩, []⟩])
  (.seq (.region false [⟨⟨.mv (.slot 0), some 7, none⟩, []⟩,
    ⟨⟨.call (.const (.func 39 [] [])) [(.slot 7)], some 8, none⟩, []⟩,
    ⟨⟨.mv (.slot 8), some 4, none⟩, []⟩])
  (.seq (.region false [⟨⟨.mv (.slot 4), some 9, none⟩, []⟩,
    ⟨⟨.call (.const (.func 45 [] [])) [(.slot 9), (.const (.func 46 [] []))], some 10, none⟩, []⟩])
  (.seq (.region false [⟨⟨.mv (.slot 4), some 11, none⟩, []⟩,
    ⟨⟨.call (.const (.func 47 [] [])) [(.slot 11)], some 12, none⟩, []⟩,
    ⟨⟨.mv (.slot 12), some 4, none⟩, []⟩])
  (.seq (.region false [⟨⟨.mv (.const (.bool false)), some 5, none⟩, []⟩])
  (.seq (.seq (.region false [⟨⟨.mv (.slot 4), some 13, none⟩, []⟩,
    ⟨⟨.len .slice (.slot 13), some 14, none⟩, []⟩,
    ⟨⟨.mv (.const (.int .i64 (.ofNat 0))), some 15, none⟩, []⟩])
  (.block 0 (.loop (.seq (.region false [⟨⟨.bin .lss 3 .num (.slot 15) (.slot 14), some 16, none⟩, []⟩])
   (.seq (.cond (.slot 16)
    .skip
    (.exit 0))
   (.seq (.block 1 (.seq (.region false [⟨⟨.mv (.slot 15), some 17, none⟩, []⟩,
     ⟨⟨.mv (.slot 17), some 6, none⟩, []⟩])
   (.region true [⟨⟨.mv (.slot 5), some 18, none⟩, []⟩,
     ⟨⟨.mv (.slot 18), some 19, none⟩, []⟩,
     ⟨⟨.mv (.slot 6), some 20, some (19, false)⟩, []⟩,
     ⟨⟨.bin .gtr 3 .num (.slot 20) (.const (.int .i64 (.ofNat 0))), some 21, some (19, false)⟩, []⟩,
     ⟨⟨.mv (.slot 21), some 22, some (19, false)⟩, []⟩,
     ⟨⟨.mv (.slot 4), some 23, some (22, true)⟩, []⟩,
     ⟨⟨.mv (.slot 6), some 24, some (22, true)⟩, []⟩,
     ⟨⟨.iaddr 1 (.slot 23) (.slot 24), some 25, some (22, true)⟩, []⟩,
     ⟨⟨.load false 1 (.slot 25), some 26, some (22, true)⟩, []⟩,
     ⟨⟨.bin .gtr 24 .num (.slot 26) (.const (.int .i32 (.ofNat 0))), some 27, some (22, true)⟩, []⟩,
     ⟨⟨.pick (.slot 22) (.slot 27) (.const (.bool false)), some 28, some (19, false)⟩, []⟩,
     ⟨⟨.mv (.slot 28), some 29, some (19, false)⟩, []⟩,
     ⟨⟨.mv (.slot 4), some 30, some (29, true)⟩, []⟩,
     ⟨⟨.mv (.slot 6), some 31, some (29, true)⟩, []⟩,
     ⟨⟨.iaddr 1 (.slot 30) (.slot 31), some 32, some (29, true)⟩, []⟩,
     ⟨⟨.load false 1 (.slot 32), some 33, some (29, true)⟩, []⟩,
     ⟨⟨.mv (.slot 4), some 34, some (29, true)⟩, []⟩,
     ⟨⟨.mv (.slot 6), some 35, some (29, true)⟩, []⟩,
     ⟨⟨.bin .sub 3 .num (.slot 35) (.const (.int .i64 (.ofNat 1))), some 36, some (29, true)⟩, []⟩,
     ⟨⟨.iaddr 1 (.slot 34) (.slot 36), some 37, some (29, true)⟩, []⟩,
     ⟨⟨.load false 1 (.slot 37), some 38, some (29, true)⟩, []⟩,
     ⟨⟨.un .neg (.slot 38), some 39, some (29, true)⟩, []⟩,
     ⟨⟨.bin .eql 24 .num (.slot 33) (.slot 39), some 40, some (29, true)⟩, []⟩,
     ⟨⟨.pick (.slot 29) (.slot 40) (.const (.bool false)), some 41, some (19, false)⟩, []⟩,
     ⟨⟨.pick (.slot 19) (.const (.bool true)) (.slot 41), some 42, none⟩, []⟩,
     ⟨⟨.mv (.slot 42), some 5, none⟩, []⟩])))
   (.region false [⟨⟨.bin .add 3 .num (.slot 15) (.const (.int .i64 (.ofNat 1))), some 43, none⟩, []⟩,
     ⟨⟨.mv (.slot 43), some 15, none⟩, []⟩])))))))
  (.seq (.region false [⟨⟨.mv (.slot 4), some 44, none⟩, []⟩,
    ⟨⟨.call (.const (.func 48 [] [])) [(.slot 44)], some 45, none⟩, []⟩,
    ⟨⟨.mv (.slot 5), some 46, none⟩, []⟩,
    ⟨⟨.mv (.slot 45), some 2, none⟩, []⟩,
    ⟨⟨.mv (.slot 46), some 3, none⟩, []⟩])
  .ret))))))),
  [.tmp 2, .tmp 3]⟩
theorem xf29_ok : compFunc Tryz.prog Tryz.f29 = some xf29 := by kernel_rfl
/-- container/heap.Init -/
def xf30 : XFunc := ⟨(.seq (.region false [⟨⟨.mv (.slot 0), some 4, none⟩, []⟩,
    ⟨⟨.invoke (.slot 4) [(17, 128, none), (84, 51, none), (88, 51, some (false, 1))] [], some 5, none⟩, []⟩,
    ⟨⟨.mv (.slot 5), some 2, none⟩, []⟩])
  (.seq (.region false [⟨⟨.mv (.slot 2), some 6, none⟩, []⟩,
    ⟨⟨.bin .quo 3 .num (.slot 6) (.const (.int .i64 (.ofNat 2))), some 7, none⟩, []⟩,
    ⟨⟨.bin .sub 3 .num (.slot 7) (.const (.int .i64 (.ofNat 1))), some 8, none⟩, []⟩,
    ⟨⟨.mv (.slot 8), some 3, none⟩, []⟩])
  (.block 0 (.loop (.seq (.seq (.region false [⟨⟨.mv (.slot 3), some 9, none⟩, []⟩,
     ⟨⟨.bin .geq 3 .num (.slot 9) (.const (.int .i64 (.ofNat 0))), some 10, none⟩, []⟩])
   (.cond (.slot 10)
    .skip
    (.exit 0)))
   (.seq (.block 1 (.region false [⟨⟨.mv (.slot 0), some 13, none⟩, []⟩,
     ⟨⟨.mv (.slot 3), some 14, none⟩, []⟩,
     ⟨⟨.mv (.slot 2), some 15, none⟩, []⟩,
     ⟨⟨.call (.const (.func 49 [] [])) [(.slot 13), (.slot 14), (.slot 15)], some 16, none⟩, []⟩]))
   (.region false [⟨⟨.mv (.slot 3), some 11, none⟩, []⟩,
     ⟨⟨.bin .sub 3 .num (.slot 11) (.const (.int .i64 (.ofNat 1))), some 12, none⟩, []⟩,
     ⟨⟨.mv (.slot 12), some 3, none⟩, []⟩]))))))),
  []⟩
theorem xf30_ok : compFunc Tryz.prog Tryz.f30 = some xf30 := by kernel_rfl
/-- (*threshing/unit.state).set -/
def xf31 : XFunc := ⟨(.seq (.region false [⟨⟨.mv (.slot 0), some 6, none⟩, []⟩,
    ⟨⟨.nilCheck (.slot 6), some 7, none⟩, []⟩,
    ⟨⟨.faddr 3 (.slot 7), some 8, none⟩, []⟩,
    ⟨⟨.load false 1 (.slot 8), some 9, none⟩, []⟩,
    ⟨⟨.mv (.slot 1), some 10, none⟩, []⟩,
    ⟨⟨.mapup .i32 (.slot 9) (.slot 10) (.const (.bool true)), none, none⟩, []⟩])
  (.seq (.region false [⟨⟨.mv (.slot 0), some 11, none⟩, []⟩,
    ⟨⟨.nilCheck (.slot 11), some 12, none⟩, []⟩,
    ⟨⟨.faddr 2 (.slot 12), some 13, none⟩, []⟩,
    ⟨⟨.load false 1 (.slot 13), some 14, none⟩, []⟩,
    ⟨⟨.mv (.slot 1), some 15, none⟩, []⟩,
    ⟨⟨.un .neg (.slot 15), some 16, none⟩, []⟩,
    ⟨⟨.lookup .i32 .nils (.slot 14) (.slot 16) false, some 17, none⟩, []⟩,
    ⟨⟨.len .slice (.slot 17), some 18, none⟩, []⟩,
    ⟨⟨.mv (.const (.int .i64 (.ofNat 0))), some 19, none⟩, []⟩])
  (.block 0 (.loop (.seq (.region false [⟨⟨.bin .lss 3 .num (.slot 19) (.slot 18), some 20, none⟩, []⟩])
   (.seq (.cond (.slot 20)
    .skip
    (.exit 0))
   (.seq (.block 1 (.seq (.region false [⟨⟨.iaddr 1 (.slot 17) (.slot 19), some 21, none⟩, []⟩,
     ⟨⟨.load false 1 (.slot 21), some 22, none⟩, []⟩,
     ⟨⟨.mv (.slot 22), some 5, none⟩, []⟩])
   (.seq (.region false [⟨⟨.mv (.slot 0), some 23, none⟩, []⟩,
     ⟨⟨.nilCheck (.slot 23), some 24, none⟩, []⟩,
     ⟨⟨.faddr 1 (.slot 24), some 25, none⟩, []⟩,
     ⟨⟨.load false 1 (.slot 25), some 26, none⟩, []⟩,
     ⟨⟨.mv (.slot 5), some 27, none⟩, []⟩,
     ⟨⟨.lookup .i64 (.int .i64 (.ofNat 0)) (.slot 26) (.slot 27) false, some 28, none⟩, []⟩,
     ⟨⟨.bin .sub 3 .num (.slot 28) (.const (.int .i64 (.ofNat 1))), some 29, none⟩, []⟩,
     ⟨⟨.mapup .i64 (.slot 26) (.slot 27) (.slot 29), none, none⟩, []⟩])
   (.seq (.region false [⟨⟨.mv (.slot 0), some 30, none⟩, []⟩,
     ⟨⟨.nilCheck (.slot 30), some 31, none⟩, []⟩,
     ⟨⟨.faddr 1 (.slot 31), some 32, none⟩, []⟩,
     ⟨⟨.load false 1 (.slot 32), some 33, none⟩, []⟩,
     ⟨⟨.mv (.slot 5), some 34, none⟩, []⟩,
     ⟨⟨.lookup .i64 (.int .i64 (.ofNat 0)) (.slot 33) (.slot 34) false, some 35, none⟩, []⟩,
     ⟨⟨.bin .leq 3 .num (.slot 35) (.const (.int .i64 (.ofNat 1))), some 36, none⟩, []⟩])
   (.cond (.slot 36)
    (.region false [⟨⟨.mv (.slot 0), some 37, none⟩, []⟩,
      ⟨⟨.nilCheck (.slot 37), some 38, none⟩, []⟩,
      ⟨⟨.faddr 4 (.slot 38), some 39, none⟩, []⟩,
      ⟨⟨.mkif 88 (.slot 39), some 40, none⟩, []⟩,
      ⟨⟨.mv (.slot 5), some 41, none⟩, []⟩,
      ⟨⟨.mkif 2 (.slot 41), some 42, none⟩, []⟩,
      ⟨⟨.call (.const (.func 50 [] [])) [(.slot 40), (.slot 42)], some 43, none⟩, []⟩])
    .skip)))))
   (.region false [⟨⟨.bin .add 3 .num (.slot 19) (.const (.int .i64 (.ofNat 1))), some 44, none⟩, []⟩,
     ⟨⟨.mv (.slot 44), some 19, none⟩, []⟩])))))))),
  []⟩
theorem xf31_ok : compFunc Tryz.prog Tryz.f31 = some xf31 := by kernel_rfl
/-- (*threshing/unit.state).next -/
def xf32 : XFunc := ⟨(.seq (.region false [⟨⟨.box (.slot 0), some 1, none⟩, []⟩,
    ⟨⟨.mv (.const (.int .i64 (.ofNat 0))), some 2, none⟩, []⟩,
    ⟨⟨.mv (.const (.int .i32 (.ofNat 0))), some 3, none⟩, []⟩,
    ⟨⟨.mv (.const (.bool false)), some 4, none⟩, []⟩])
  (.seq (.block 0 (.loop (.seq (.seq (.region false [⟨⟨.load false 1 (.slot 1), some 8, none⟩, []⟩,
     ⟨⟨.nilCheck (.slot 8), some 9, none⟩, []⟩,
     ⟨⟨.faddr 4 (.slot 9), some 10, none⟩, []⟩,
     ⟨⟨.load false 1 (.slot 10), some 11, none⟩, []⟩,
     ⟨⟨.call (.const (.func 51 [] [])) [(.slot 11)], some 12, none⟩, []⟩,
     ⟨⟨.bin .gtr 3 .num (.slot 12) (.const (.int .i64 (.ofNat 0))), some 13, none⟩, []⟩])
   (.cond (.slot 13)
    .skip
    (.exit 0)))
   (.block 1 (.seq (.region false [⟨⟨.load false 1 (.slot 1), some 14, none⟩, []⟩,
     ⟨⟨.nilCheck (.slot 14), some 15, none⟩, []⟩,
     ⟨⟨.faddr 4 (.slot 15), some 16, none⟩, []⟩,
     ⟨⟨.mkif 88 (.slot 16), some 17, none⟩, []⟩,
     ⟨⟨.call (.const (.func 52 [] [])) [(.slot 17)], some 18, none⟩, []⟩,
     ⟨⟨.tassert 2 (.int .i64 (.ofNat 0)) false (.slot 18), some 19, none⟩, []⟩,
     ⟨⟨.mv (.slot 19), some 5, none⟩, []⟩])
   (.seq (.region false [⟨⟨.mkfunc 53 [] [(.slot 1)], some 20, none⟩, []⟩,
     ⟨⟨.mv (.slot 20), some 6, none⟩, []⟩])
   (.seq (.seq (.region false [⟨⟨.load false 1 (.slot 1), some 21, none⟩, []⟩,
     ⟨⟨.nilCheck (.slot 21), some 22, none⟩, []⟩,
     ⟨⟨.faddr 0 (.slot 22), some 23, none⟩, []⟩,
     ⟨⟨.load false 1 (.slot 23), some 24, none⟩, []⟩,
     ⟨⟨.mv (.slot 5), some 25, none⟩, []⟩,
     ⟨⟨.lookup .i64 .nils (.slot 24) (.slot 25) false, some 26, none⟩, []⟩,
     ⟨⟨.mv (.slot 6), some 27, none⟩, []⟩,
     ⟨⟨.call (.const (.func 54 [] [])) [(.slot 26), (.slot 27)], some 28, none⟩, []⟩])
   (.cond (.slot 28)
    (.exit 1)
    .skip))
   (.seq (.region false [⟨⟨.load false 1 (.slot 1), some 29, none⟩, []⟩,
     ⟨⟨.nilCheck (.slot 29), some 30, none⟩, []⟩,
     ⟨⟨.faddr 0 (.slot 30), some 31, none⟩, []⟩,
     ⟨⟨.load false 1 (.slot 31), some 32, none⟩, []⟩,
     ⟨⟨.mv (.slot 5), some 33, none⟩, []⟩,
     ⟨⟨.lookup .i64 .nils (.slot 32) (.slot 33) false, some 34, none⟩, []⟩,
     ⟨⟨.mkfunc 56 [] [(.slot 1)], some 35, none⟩, []⟩,
     ⟨⟨.call (.const (.func 55 [] [])) [(.slot 34), (.slot 35)], some 36, none⟩, []⟩,
     ⟨⟨.mv (.slot 36), some 7, none⟩, []⟩])
   (.seq (.seq (.region false [⟨⟨.mv (.slot 7), some 37, none⟩, []⟩,
     ⟨⟨.bin .lss 3 .num (.slot 37) (.const (.int .i64 (.ofNat 0))), some 38, none⟩, []⟩])
   (.cond (.slot 38)
    (.seq (.region false [⟨⟨.mv (.slot 5), some 39, none⟩, []⟩,
      ⟨⟨.mv (.slot 39), some 2, none⟩, []⟩,
      ⟨⟨.mv (.const (.int .i32 (.ofNat 0))), some 3, none⟩, []⟩,
      ⟨⟨.mv (.const (.bool true)), some 4, none⟩, []⟩])
    .ret)
    .skip))
   (.seq (.region true [⟨⟨.mv (.slot 5), some 40, none⟩, []⟩,
     ⟨⟨.load false 1 (.slot 1), some 41, none⟩, []⟩,
     ⟨⟨.nilCheck (.slot 41), some 42, none⟩, []⟩,
     ⟨⟨.faddr 0 (.slot 42), some 43, none⟩, []⟩,
     ⟨⟨.load false 1 (.slot 43), some 44, none⟩, []⟩,
     ⟨⟨.mv (.slot 5), some 45, none⟩, []⟩,
     ⟨⟨.lookup .i64 .nils (.slot 44) (.slot 45) false, some 46, none⟩, []⟩,
     ⟨⟨.mv (.slot 7), some 47, none⟩, []⟩,
     ⟨⟨.iaddr 1 (.slot 46) (.slot 47), some 48, none⟩, []⟩,
     ⟨⟨.load false 1 (.slot 48), some 49, none⟩, []⟩,
     ⟨⟨.mv (.slot 40), some 2, none⟩, []⟩,
     ⟨⟨.mv (.slot 49), some 3, none⟩, []⟩,
     ⟨⟨.mv (.const (.bool true)), some 4, none⟩, []⟩])
   .ret))))))))))
  (.seq (.region false [⟨⟨.mv (.const (.int .i64 (.ofNat 0))), some 2, none⟩, []⟩,
    ⟨⟨.mv (.const (.int .i32 (.ofNat 0))), some 3, none⟩, []⟩,
    ⟨⟨.mv (.const (.bool false)), some 4, none⟩, []⟩])
  .ret))),
  [.tmp 2, .tmp 3, .tmp 4]⟩
theorem xf32_ok : compFunc Tryz.prog Tryz.f32 = some xf32 := by kernel_rfl
/-- (*threshing/base.Base).Add -/
def xf33 : XFunc := ⟨(.seq (.region false [⟨⟨.mv (.const (.int .i64 (.ofNat 0))), some 8, none⟩, []⟩,
    ⟨⟨.mv (.const (.int .i64 (.ofNat 0))), some 9, none⟩, []⟩])
  (.seq (.block 0 (.seq (.region false [⟨⟨.mv (.slot 0), some 12, none⟩, []⟩,
    ⟨⟨.bin .eql 22 .ptr (.slot 12) (.const .nilp), some 13, none⟩, []⟩,
    ⟨⟨.mv (.slot 13), some 11, none⟩, []⟩])
  (.cond (.slot 11)
   (.seq (.region false [⟨⟨.mv (.const (.int .i64 (.ofNat 0))), some 8, none⟩, []⟩,
     ⟨⟨.mv (.const (.int .i64 (.ofNat 1))), some 9, none⟩, []⟩])
   .ret)
   (.seq (.region false [⟨⟨.mv (.slot 0), some 15, none⟩, []⟩,
     ⟨⟨.call (.const (.func 57 [] [])) [(.slot 15)], some 16, none⟩, []⟩,
     ⟨⟨.mv (.slot 16), some 14, none⟩, []⟩])
   (.cond (.slot 14)
    (.seq (.region false [⟨⟨.mv (.const (.int .i64 (.ofNat 0))), some 8, none⟩, []⟩,
      ⟨⟨.mv (.const (.int .i64 (.ofNat 3))), some 9, none⟩, []⟩])
    .ret)
    (.seq (.region false [⟨⟨.mv (.slot 0), some 18, none⟩, []⟩,
      ⟨⟨.mv (.slot 1), some 19, none⟩, []⟩,
      ⟨⟨.call (.const (.func 58 [] [])) [(.slot 18), (.slot 19)], some 20, none⟩, []⟩,
      ⟨⟨.un .not (.slot 20), some 21, none⟩, []⟩,
      ⟨⟨.mv (.slot 21), some 17, none⟩, []⟩])
    (.cond (.slot 17)
     (.seq (.region false [⟨⟨.mv (.const (.int .i64 (.ofNat 0))), some 8, none⟩, []⟩,
       ⟨⟨.mv (.const (.int .i64 (.ofNat 4))), some 9, none⟩, []⟩])
     .ret)
     .skip)))))))
  (.seq (.seq (.region false [⟨⟨.mv (.slot 0), some 22, none⟩, []⟩,
    ⟨⟨.mv (.slot 1), some 23, none⟩, []⟩,
    ⟨⟨.mv (.slot 2), some 24, none⟩, []⟩,
    ⟨⟨.call (.const (.func 59 [] [])) [(.slot 22), (.slot 23), (.slot 24)], some 25, none⟩, []⟩,
    ⟨⟨.mv (.slot 25), some 10, none⟩, []⟩])
  (.seq (.region false [⟨⟨.mv (.slot 10), some 26, none⟩, []⟩,
    ⟨⟨.bin .neq 27 .num (.slot 26) (.const (.int .i64 (.ofNat 0))), some 27, none⟩, []⟩])
  (.cond (.slot 27)
   (.seq (.region false [⟨⟨.mv (.slot 10), some 28, none⟩, []⟩,
     ⟨⟨.mv (.const (.int .i64 (.ofNat 0))), some 8, none⟩, []⟩,
     ⟨⟨.mv (.slot 28), some 9, none⟩, []⟩])
   .ret)
   .skip)))
  (.seq (.region false [⟨⟨.mv (.slot 0), some 29, none⟩, []⟩,
    ⟨⟨.mv (.slot 1), some 30, none⟩, []⟩,
    ⟨⟨.mv (.slot 3), some 31, none⟩, []⟩,
    ⟨⟨.call (.const (.func 27 [] [])) [(.slot 29), (.slot 30), (.slot 31)], some 32, none⟩, []⟩])
  (.seq (.region true [⟨⟨.mv (.slot 0), some 33, none⟩, []⟩,
    ⟨⟨.mv (.slot 0), some 34, none⟩, []⟩,
    ⟨⟨.nilCheck (.slot 34), some 35, none⟩, []⟩,
    ⟨⟨.faddr 5 (.slot 35), some 36, none⟩, []⟩,
    ⟨⟨.load false 1 (.slot 36), some 37, none⟩, []⟩,
    ⟨⟨.mv (.slot 0), some 38, none⟩, []⟩,
    ⟨⟨.nilCheck (.slot 38), some 39, none⟩, []⟩,
    ⟨⟨.faddr 4 (.slot 39), some 40, none⟩, []⟩,
    ⟨⟨.load false 1 (.slot 40), some 41, none⟩, []⟩,
    ⟨⟨.mv (.slot 1), some 42, none⟩, []⟩,
    ⟨⟨.mv (.slot 2), some 44, none⟩, []⟩,
    ⟨⟨.call (.const (.func 39 [] [])) [(.slot 42)], some 43, none⟩, [⟨.load false 1 (.slot 36), some 37, none⟩, ⟨.load false 1 (.slot 40), some 41, none⟩]⟩,
    ⟨⟨.call (.const (.func 35 [] [])) [(.slot 44)], some 45, none⟩, [⟨.load false 1 (.slot 36), some 37, none⟩, ⟨.load false 1 (.slot 40), some 41, none⟩]⟩,
    ⟨⟨.build [(.int .u8 (.ofNat 0)), (.int .i64 (.ofNat 0)), .nils, .nils] [(0, 1, (.const (.int .u8 (.ofNat 1)))), (1, 1, (.slot 41)), (2, 1, (.slot 43)), (3, 1, (.slot 45))], some 46, none⟩, []⟩,
    ⟨⟨.bslice 4 [(.int .u8 (.ofNat 0)), (.int .i64 (.ofNat 0)), .nils, .nils] [(0, 4, (.slot 46))] 1, some 47, none⟩, [⟨.load false 1 (.slot 36), some 37, none⟩]⟩,
    ⟨⟨.append 4 64 (.slot 37) (.slot 47), some 48, none⟩, []⟩,
    ⟨⟨.nilCheck (.slot 33), some 49, none⟩, []⟩,
    ⟨⟨.faddr 5 (.slot 49), some 50, none⟩, []⟩,
    ⟨⟨.store 1 (.slot 50) (.slot 48), none, none⟩, []⟩])
  (.seq (.region true [⟨⟨.mv (.slot 0), some 51, none⟩, []⟩,
    ⟨⟨.mv (.slot 0), some 52, none⟩, []⟩,
    ⟨⟨.nilCheck (.slot 52), some 53, none⟩, []⟩,
    ⟨⟨.faddr 4 (.slot 53), some 54, none⟩, []⟩,
    ⟨⟨.load false 1 (.slot 54), some 55, none⟩, []⟩,
    ⟨⟨.mv (.slot 3), some 56, none⟩, []⟩,
    ⟨⟨.mv (.slot 1), some 57, none⟩, []⟩,
    ⟨⟨.mv (.slot 2), some 59, none⟩, []⟩,
    ⟨⟨.call (.const (.func 39 [] [])) [(.slot 57)], some 58, none⟩, [⟨.load false 1 (.slot 54), some 55, none⟩]⟩,
    ⟨⟨.call (.const (.func 35 [] [])) [(.slot 59)], some 60, none⟩, [⟨.load false 1 (.slot 54), some 55, none⟩]⟩,
    ⟨⟨.build [(.int .u8 (.ofNat 0)), (.int .i64 (.ofNat 0)), (.int .i64 (.ofNat 0)), (.bool false), .nils, .nils] [(0, 1, (.const (.int .u8 (.ofNat 1)))), (1, 1, (.slot 55)), (3, 1, (.slot 56)), (4, 1, (.slot 58)), (5, 1, (.slot 60))], some 61, none⟩, []⟩,
    ⟨⟨.call (.const (.func 60 [] [])) [(.slot 51), (.slot 61)], some 62, none⟩, []⟩])
  (.seq (.region false [⟨⟨.mv (.slot 0), some 63, none⟩, []⟩,
    ⟨⟨.nilCheck (.slot 63), some 64, none⟩, []⟩,
    ⟨⟨.faddr 4 (.slot 64), some 65, none⟩, []⟩,
    ⟨⟨.load false 1 (.slot 65), some 66, none⟩, []⟩,
    ⟨⟨.mv (.slot 66), some 8, none⟩, []⟩,
    ⟨⟨.mv (.const (.int .i64 (.ofNat 0))), some 9, none⟩, []⟩])
  .ret))))))),
  [.tmp 8, .tmp 9]⟩
theorem xf33_ok : compFunc Tryz.prog Tryz.f33 = some xf33 := by kernel_rfl
/-- (*threshing/probe.prober).done -/
def xf34 : XFunc := ⟨(.seq (.region false [⟨⟨.mv (.slot 0), some 4, none⟩, []⟩,
    ⟨⟨.mv (.slot 1), some 5, none⟩, []⟩,
    ⟨⟨.nilCheck (.slot 4), some 6, none⟩, []⟩,
    ⟨⟨.faddr 3 (.slot 6), some 7, none⟩, []⟩,
    ⟨⟨.store 1 (.slot 7) (.slot 5), none, none⟩, []⟩])
  (.seq (.region false [⟨⟨.mv (.slot 1), some 8, none⟩, []⟩,
    ⟨⟨.bin .eql 27 .num (.slot 8) (.const (.int .i64 (.ofNat 0))), some 9, none⟩, []⟩])
  (.cond (.slot 9)
   (.region false [⟨⟨.mv (.slot 0), some 10, none⟩, []⟩,
     ⟨⟨.nilCheck (.slot 10), some 11, none⟩, []⟩,
     ⟨⟨.faddr 1 (.slot 11), some 12, none⟩, []⟩,
     ⟨⟨.load false 1 (.slot 12), some 13, none⟩, []⟩,
     ⟨⟨.bin .add 3 .num (.slot 13) (.const (.int .i64 (.ofNat 1))), some 14, none⟩, []⟩,
     ⟨⟨.nilCheck (.slot 10), some 15, none⟩, []⟩,
     ⟨⟨.faddr 1 (.slot 15), some 16, none⟩, []⟩,
     ⟨⟨.store 1 (.slot 16) (.slot 14), none, none⟩, []⟩])
   .skip))),
  []⟩
theorem xf34_ok : compFunc Tryz.prog Tryz.f34 = some xf34 := by kernel_rfl
/-- slices.Clone[[]int64,int64] -/
def xf35 : XFunc := ⟨(.seq (.region false [⟨⟨.mv (.const .nils), some 2, none⟩, []⟩])
  (.seq (.seq (.region false [⟨⟨.mv (.slot 0), some 3, none⟩, []⟩,
    ⟨⟨.bin .eql 51 .slice (.slot 3) (.const .nils), some 4, none⟩, []⟩])
  (.cond (.slot 4)
   (.seq (.region false [⟨⟨.mv (.const .nils), some 2, none⟩, []⟩])
   .ret)
   .skip))
  (.seq (.region false [⟨⟨.bslice 1 [] [] 0, some 5, none⟩, []⟩,
    ⟨⟨.mv (.slot 0), some 6, none⟩, []⟩,
    ⟨⟨.append 1 8 (.slot 5) (.slot 6), some 7, none⟩, []⟩,
    ⟨⟨.mv (.slot 7), some 2, none⟩, []⟩])
  .ret))),
  [.tmp 2]⟩
theorem xf35_ok : compFunc Tryz.prog Tryz.f35 = some xf35 := by kernel_rfl
/-- (*threshing/probe.prober).try$1 -/
def xf36 : XFunc := ⟨(.seq (.region false [⟨⟨.alloc [(.int .i32 (.ofNat 0)), .nils, .nils, (.int .i64 (.ofNat 0)), .nilm], some 3, none⟩, []⟩,
    ⟨⟨.mv (.const (.bool false)), some 4, none⟩, []⟩])
  (.seq (.region false [⟨⟨.load false 1 (.slot 1), some 8, none⟩, []⟩,
    ⟨⟨.nilCheck (.slot 8), some 9, none⟩, []⟩,
    ⟨⟨.faddr 0 (.slot 9), some 10, none⟩, []⟩,
    ⟨⟨.load false 1 (.slot 10), some 11, none⟩, []⟩,
    ⟨⟨.mv (.slot 0), some 12, none⟩, []⟩,
    ⟨⟨.bslice 1 [(.int .i32 (.ofNat 0))] [(0, 1, (.slot 12))] 1, some 13, none⟩, []⟩,
    ⟨⟨.call (.const (.func 15 [] [])) [(.slot 11), (.slot 13), (.const (.int .i64 (.ofNat 0)))], some 14, none⟩, []⟩,
    ⟨⟨.mv (.slot 14), some 7, none⟩, []⟩,
    ⟨⟨.extract (.slot 7) 0, some 15, none⟩, []⟩,
    ⟨⟨.extract (.slot 7) 1, some 16, none⟩, []⟩,
    ⟨⟨.alloc [.nils, .nils, (.int .i64 (.ofNat 0))], some 5, none⟩, []⟩,
    ⟨⟨.store 3 (.slot 5) (.slot 15), none, none⟩, []⟩,
    ⟨⟨.mv (.slot 16), some 6, none⟩, []⟩])
  (.seq (.seq (.region false [⟨⟨.mv (.slot 6), some 17, none⟩, []⟩,
    ⟨⟨.bin .neq 27 .num (.slot 17) (.const (.int .i64 (.ofNat 0))), some 18, none⟩, []⟩])
  (.cond (.slot 18)
   (.seq (.region false [⟨⟨.load false 1 (.slot 1), some 19, none⟩, []⟩,
     ⟨⟨.mv (.slot 6), some 20, none⟩, []⟩,
     ⟨⟨.nilCheck (.slot 19), some 21, none⟩, []⟩,
     ⟨⟨.faddr 3 (.slot 21), some 22, none⟩, []⟩,
     ⟨⟨.store 1 (.slot 22) (.slot 20), none, none⟩, []⟩])
   (.seq (.region false [⟨⟨.build [(.int .i32 (.ofNat 0)), .nils, .nils, (.int .i64 (.ofNat 0)), .nilm] [], some 23, none⟩, []⟩,
     ⟨⟨.store 5 (.slot 3) (.slot 23), none, none⟩, []⟩,
     ⟨⟨.mv (.const (.bool false)), some 4, none⟩, []⟩])
   .ret))
   .skip))
  (.seq (.seq (.region false [⟨⟨.faddr 2 (.slot 5), some 24, none⟩, []⟩,
    ⟨⟨.load false 1 (.slot 24), some 25, none⟩, []⟩,
    ⟨⟨.bin .neq 2 .num (.slot 25) (.const (.int .i64 (.ofNat 0))), some 26, none⟩, []⟩])
  (.cond (.slot 26)
   (.seq (.region true [⟨⟨.load false 1 (.slot 1), some 27, none⟩, []⟩,
     ⟨⟨.mv (.slot 0), some 28, none⟩, []⟩,
     ⟨⟨.un .neg (.slot 28), some 29, none⟩, []⟩,
     ⟨⟨.load true 3 (.slot 5), some 31, none⟩, []⟩,
     ⟨⟨.call (.const (.func 17 [] [])) [(.slot 31)], some 32, none⟩, [⟨.load false 1 (.slot 1), some 27, none⟩]⟩,
     ⟨⟨.bslice 1 [(.int .i32 (.ofNat 0))] [(0, 1, (.slot 29))] 1, some 30, none⟩, [⟨.load false 1 (.slot 1), some 27, none⟩, ⟨.load true 3 (.slot 5), some 31, none⟩]⟩,
     ⟨⟨.call (.const (.func 16 [] [])) [(.slot 27), (.slot 30), (.slot 32), (.const (.bool false))], some 33, none⟩, []⟩])
   (.seq (.region false [⟨⟨.build [(.int .i32 (.ofNat 0)), .nils, .nils, (.int .i64 (.ofNat 0)), .nilm] [], some 34, none⟩, []⟩,
     ⟨⟨.store 5 (.slot 3) (.slot 34), none, none⟩, []⟩,
     ⟨⟨.mv (.const (.bool false)), some 4, none⟩, []⟩])
   .ret))
   .skip))
  (.seq (.region true [⟨⟨.mv (.slot 0), some 35, none⟩, []⟩,
    ⟨⟨.load true 3 (.slot 5), some 36, none⟩, []⟩,
    ⟨⟨.faddr 0 (.slot 5), some 37, none⟩, []⟩,
    ⟨⟨.load false 1 (.slot 37), some 38, none⟩, []⟩,
    ⟨⟨.call (.const (.func 18 [] [])) [(.slot 38)], some 39, none⟩, [⟨.load true 3 (.slot 5), some 36, none⟩]⟩,
    ⟨⟨.build [(.int .i32 (.ofNat 0)), .nils, .nils, (.int .i64 (.ofNat 0)), .nilm] [(0, 1, (.slot 35)), (1, 3, (.slot 36)), (4, 1, (.slot 39))], some 40, none⟩, []⟩,
    ⟨⟨.store 5 (.slot 3) (.slot 40), none, none⟩, []⟩,
    ⟨⟨.mv (.const (.bool true)), some 4, none⟩, []⟩])
  .ret))))),
  [.cell 3 true 5, .tmp 4]⟩
theorem xf36_ok : compFunc Tryz.prog Tryz.f36 = some xf36 := by kernel_rfl
/-- (*threshing/probe.prober).both -/
def xf37 : XFunc := ⟨(.seq (.region false [⟨⟨.box (.slot 1), some 5, none⟩, []⟩,
    ⟨⟨.box (.slot 2), some 6, none⟩, []⟩,
    ⟨⟨.mv (.const (.int .i64 (.ofNat 0))), some 8, none⟩, []⟩])
  (.seq (.region true [⟨⟨.mv (.slot 0), some 16, none⟩, []⟩,
    ⟨⟨.nilCheck (.slot 16), some 17, none⟩, []⟩,
    ⟨⟨.faddr 0 (.slot 17), some 18, none⟩, []⟩,
    ⟨⟨.load false 1 (.slot 18), some 19, none⟩, []⟩,
    ⟨⟨.faddr 0 (.slot 5), some 20, none⟩, []⟩,
    ⟨⟨.load false 1 (.slot 20), some 21, none⟩, []⟩,
    ⟨⟨.un .neg (.slot 21), some 22, none⟩, []⟩,
    ⟨⟨.mv (.slot 3), some 23, none⟩, []⟩,
    ⟨⟨.faddr 1 (.slot 5), some 25, none⟩, []⟩,
    ⟨⟨.load true 3 (.slot 25), some 26, none⟩, []⟩,
    ⟨⟨.mv (.slot 3), some 27, none⟩, []⟩,
    ⟨⟨.call (.const (.func 61 [] [])) [(.slot 26), (.slot 27)], some 28, none⟩, [⟨.load false 1 (.slot 18), some 19, none⟩, ⟨.load false 1 (.slot 20), some 21, none⟩]⟩,
    ⟨⟨.bslice 1 [(.int .i32 (.ofNat 0)), (.int .i32 (.ofNat 0))] [(0, 1, (.slot 22)), (1, 1, (.slot 23))] 2, some 24, none⟩, [⟨.load false 1 (.slot 18), some 19, none⟩, ⟨.load true 3 (.slot 25), some 26, none⟩]⟩,
    ⟨⟨.call (.const (.func 33 [] [])) [(.slot 19), (.slot 24), (.slot 28), (.const (.bool true))], some 29, none⟩, []⟩,
    ⟨⟨.mv (.slot 29), some 15, none⟩, []⟩,
    ⟨⟨.extract (.slot 15) 0, some 30, none⟩, []⟩,
    ⟨⟨.extract (.slot 15) 1, some 31, none⟩, []⟩,
    ⟨⟨.mv (.slot 30), some 9, none⟩, []⟩,
    ⟨⟨.mv (.slot 31), some 10, none⟩, []⟩])
  (.seq (.seq (.region false [⟨⟨.mv (.slot 10), some 32, none⟩, []⟩,
    ⟨⟨.bin .neq 27 .num (.slot 32) (.const (.int .i64 (.ofNat 0))), some 33, none⟩, []⟩])
  (.cond (.slot 33)
   (.seq (.region false [⟨⟨.mv (.slot 10), some 34, none⟩, []⟩,
     ⟨⟨.mv (.slot 34), some 8, none⟩, []⟩])
   .ret)
   .skip))
  (.seq (.region true [⟨⟨.mv (.slot 0), some 36, none⟩, []⟩,
    ⟨⟨.nilCheck (.slot 36), some 37, none⟩, []⟩,
    ⟨⟨.faddr 0 (.slot 37), some 38, none⟩, []⟩,
    ⟨⟨.load false 1 (.slot 38), some 39, none⟩, []⟩,
    ⟨⟨.faddr 0 (.slot 5), some 40, none⟩, []⟩,
    ⟨⟨.load false 1 (.slot 40), some 41, none⟩, []⟩,
    ⟨⟨.mv (.slot 3), some 42, none⟩, []⟩,
    ⟨⟨.faddr 1 (.slot 6), some 44, none⟩, []⟩,
    ⟨⟨.load true 3 (.slot 44), some 45, none⟩, []⟩,
    ⟨⟨.mv (.slot 3), some 46, none⟩, []⟩,
    ⟨⟨.call (.const (.func 61 [] [])) [(.slot 45), (.slot 46)], some 47, none⟩, [⟨.load false 1 (.slot 38), some 39, none⟩, ⟨.load false 1 (.slot 40), some 41, none⟩]⟩,
    ⟨⟨.bslice 1 [(.int .i32 (.ofNat 0)), (.int .i32 (.ofNat 0))] [(0, 1, (.slot 41)), (1, 1, (.slot 42))] 2, some 43, none⟩, [⟨.load false 1 (.slot 38), some 39, none⟩, ⟨.load true 3 (.slot 44), some 45, none⟩]⟩,
    ⟨⟨.call (.const (.func 33 [] [])) [(.slot 39), (.slot 43), (.slot 47), (.const (.bool true))], some 48, none⟩, []⟩,
    ⟨⟨.mv (.slot 48), some 35, none⟩, []⟩,
    ⟨⟨.extract (.slot 35) 0, some 49, none⟩, []⟩,
    ⟨⟨.extract (.slot 35) 1, some 50, none⟩, []⟩,
    ⟨⟨.mv (.slot 49), some 11, none⟩, []⟩,
    ⟨⟨.mv (.slot 50), some 10, none⟩, []⟩])
  (.seq (.seq (.region false [⟨⟨.mv (.slot 10), some 51, none⟩, []⟩,
    ⟨⟨.bin .neq 27 .num (.slot 51) (.const (.int .i64 (.ofNat 0))), some 52, none⟩, []⟩])
  (.cond (.slot 52)
   (.seq (.region false [⟨⟨.mv (.slot 10), some 53, none⟩, []⟩,
     ⟨⟨.mv (.slot 53), some 8, none⟩, []⟩])
   .ret)
   .skip))
  (.seq (.seq (.region false [⟨⟨.mv (.slot 0), some 55, none⟩, []⟩,
    ⟨⟨.nilCheck (.slot 55), some 56, none⟩, []⟩,
    ⟨⟨.faddr 0 (.slot 56), some 57, none⟩, []⟩,
    ⟨⟨.load false 1 (.slot 57), some 58, none⟩, []⟩,
    ⟨⟨.mv (.slot 3), some 59, none⟩, []⟩,
    ⟨⟨.bslice 1 [(.int .i32 (.ofNat 0))] [(0, 1, (.slot 59))] 1, some 60, none⟩, []⟩,
    ⟨⟨.mv (.slot 9), some 61, none⟩, []⟩,
    ⟨⟨.mv (.slot 11), some 62, none⟩, []⟩,
    ⟨⟨.bslice 1 [(.int .i64 (.ofNat 0)), (.int .i64 (.ofNat 0))] [(0, 1, (.slot 61)), (1, 1, (.slot 62))] 2, some 63, none⟩, []⟩,
    ⟨⟨.call (.const (.func 33 [] [])) [(.slot 58), (.slot 60), (.slot 63), (.const (.bool false))], some 64, none⟩, []⟩,
    ⟨⟨.mv (.slot 64), some 54, none⟩, []⟩,
    ⟨⟨.extract (.slot 54) 0, some 65, none⟩, []⟩,
    ⟨⟨.extract (.slot 54) 1, some 66, none⟩, []⟩,
    ⟨⟨.mv (.slot 65), some 12, none⟩, []⟩,
    ⟨⟨.mv (.slot 66), some 13, none⟩, []⟩])
  (.seq (.region false [⟨⟨.mv (.slot 13), some 67, none⟩, []⟩,
    ⟨⟨.bin .neq 27 .num (.slot 67) (.const (.int .i64 (.ofNat 0))), some 68, none⟩, []⟩])
  (.cond (.slot 68)
   (.seq (.region false [⟨⟨.mv (.slot 13), some 69, none⟩, []⟩,
     ⟨⟨.mv (.slot 69), some 8, none⟩, []⟩])
   .ret)
   .skip)))
  (.seq (.seq (.region false [⟨⟨.mv (.slot 0), some 70, none⟩, []⟩,
    ⟨⟨.nilCheck (.slot 70), some 71, none⟩, []⟩,
    ⟨⟨.faddr 0 (.slot 71), some 72, none⟩, []⟩,
    ⟨⟨.load false 1 (.slot 72), some 73, none⟩, []⟩,
    ⟨⟨.mv (.slot 9), some 74, none⟩, []⟩,
    ⟨⟨.call (.const (.func 62 [] [])) [(.slot 73), (.slot 74)], some 75, none⟩, []⟩,
    ⟨⟨.mv (.slot 75), some 14, none⟩, []⟩])
  (.seq (.region false [⟨⟨.mv (.slot 14), some 76, none⟩, []⟩,
    ⟨⟨.bin .neq 27 .num (.slot 76) (.const (.int .i64 (.ofNat 0))), some 77, none⟩, []⟩])
  (.cond (.slot 77)
   (.seq (.region false [⟨⟨.mv (.slot 14), some 78, none⟩, []⟩,
     ⟨⟨.mv (.slot 78), some 8, none⟩, []⟩])
   .ret)
   .skip)))
  (.seq (.region false [⟨⟨.mv (.slot 0), some 79, none⟩, []⟩,
    ⟨⟨.nilCheck (.slot 79), some 80, none⟩, []⟩,
    ⟨⟨.faddr 0 (.slot 80), some 81, none⟩, []⟩,
    ⟨⟨.load false 1 (.slot 81), some 82, none⟩, []⟩,
    ⟨⟨.mv (.slot 11), some 83, none⟩, []⟩,
    ⟨⟨.call (.const (.func 62 [] [])) [(.slot 82), (.slot 83)], some 84, none⟩, []⟩,
    ⟨⟨.mv (.slot 84), some 8, none⟩, []⟩])
  .ret)))))))),
  [.tmp 8]⟩
theorem xf37_ok : compFunc Tryz.prog Tryz.f37 = some xf37 := by kernel_rfl
/-- (*threshing/probe.prober).hyper -/
def xf38 : XFunc := ⟨(.seq (.region false [⟨⟨.box (.slot 1), some 4, none⟩, []⟩,
    ⟨⟨.box (.slot 2), some 5, none⟩, []⟩])
  (.seq (.region false [⟨⟨.faddr 1 (.slot 4), some 13, none⟩, []⟩,
    ⟨⟨.faddr 0 (.slot 13), some 14, none⟩, []⟩,
    ⟨⟨.load false 1 (.slot 14), some 15, none⟩, []⟩,
    ⟨⟨.slc 1 (.slot 15) (some (.const (.int .i64 (.ofNat 1)))) none none, some 16, none⟩, []⟩,
    ⟨⟨.len .slice (.slot 16), some 17, none⟩, []⟩,
    ⟨⟨.mv (.const (.int .i64 (.ofNat 0))), some 18, none⟩, []⟩])
  (.block 0 (.loop (.seq (.region false [⟨⟨.bin .lss 3 .num (.slot 18) (.slot 17), some 19, none⟩, []⟩])
   (.seq (.cond (.slot 19)
    .skip
    (.exit 0))
   (.seq (.block 1 (.seq (.region false [⟨⟨.mv (.slot 18), some 20, none⟩, []⟩,
     ⟨⟨.iaddr 1 (.slot 16) (.slot 18), some 21, none⟩, []⟩,
     ⟨⟨.load false 1 (.slot 21), some 22, none⟩, []⟩,
     ⟨⟨.mv (.slot 20), some 6, none⟩, []⟩,
     ⟨⟨.mv (.slot 22), some 7, none⟩, []⟩])
   (.seq (.seq (.region false [⟨⟨.mv (.slot 0), some 23, none⟩, []⟩,
     ⟨⟨.call (.const (.func 14 [] [])) [(.slot 23)], some 24, none⟩, []⟩])
   (.cond (.slot 24)
    .ret
    .skip))
   (.seq (.region true [⟨⟨.mv (.slot 0), some 26, none⟩, []⟩,
     ⟨⟨.nilCheck (.slot 26), some 27, none⟩, []⟩,
     ⟨⟨.faddr 0 (.slot 27), some 28, none⟩, []⟩,
     ⟨⟨.load false 1 (.slot 28), some 29, none⟩, []⟩,
     ⟨⟨.faddr 1 (.slot 4), some 30, none⟩, []⟩,
     ⟨⟨.faddr 1 (.slot 30), some 31, none⟩, []⟩,
     ⟨⟨.load false 1 (.slot 31), some 32, none⟩, []⟩,
     ⟨⟨.mv (.slot 6), some 33, none⟩, []⟩,
     ⟨⟨.iaddr 1 (.slot 32) (.slot 33), some 34, none⟩, []⟩,
     ⟨⟨.load false 1 (.slot 34), some 35, none⟩, []⟩,
     ⟨⟨.call (.const (.func 6 [] [])) [(.slot 29), (.slot 35)], some 36, none⟩, []⟩,
     ⟨⟨.mv (.slot 36), some 25, none⟩, []⟩,
     ⟨⟨.extract (.slot 25) 0, some 37, none⟩, []⟩,
     ⟨⟨.extract (.slot 25) 1, some 38, none⟩, []⟩,
     ⟨⟨.alloc [(.int .i64 (.ofNat 0)), .nils, (.bool false)], some 8, none⟩, [⟨.load false 1 (.slot 28), some 29, none⟩, ⟨.load false 1 (.slot 31), some 32, none⟩, ⟨.load false 1 (.slot 34), some 35, none⟩]⟩,
     ⟨⟨.store 3 (.slot 8) (.slot 37), none, none⟩, []⟩,
     ⟨⟨.mv (.slot 38), some 9, none⟩, []⟩])
   (.seq (.region false [⟨⟨.faddr 1 (.slot 8), some 40, none⟩, []⟩,
     ⟨⟨.load false 1 (.slot 40), some 41, none⟩, []⟩,
     ⟨⟨.call (.const (.func 29 [] [])) [(.slot 41)], some 42, none⟩, []⟩,
     ⟨⟨.mv (.slot 42), some 39, none⟩, []⟩,
     ⟨⟨.extract (.slot 39) 0, some 43, none⟩, []⟩,
     ⟨⟨.extract (.slot 39) 1, some 44, none⟩, []⟩,
     ⟨⟨.mv (.slot 43), some 10, none⟩, []⟩,
     ⟨⟨.mv (.slot 44), some 11, none⟩, []⟩])
   (.seq (.region false [⟨⟨.faddr 0 (.slot 4), some 45, none⟩, []⟩,
     ⟨⟨.load false 1 (.slot 45), some 46, none⟩, []⟩,
     ⟨⟨.un .neg (.slot 46), some 47, none⟩, []⟩,
     ⟨⟨.mv (.slot 7), some 48, none⟩, []⟩,
     ⟨⟨.bslice 1 [(.int .i32 (.ofNat 0)), (.int .i32 (.ofNat 0))] [(0, 1, (.slot 47)), (1, 1, (.slot 48))] 2, some 49, none⟩, []⟩,
     ⟨⟨.mv (.slot 49), some 12, none⟩, []⟩])
   (.seq (.region false [⟨⟨.mv (.slot 0), some 50, none⟩, []⟩,
     ⟨⟨.nilCheck (.slot 50), some 51, none⟩, []⟩,
     ⟨⟨.faddr 4 (.slot 51), some 52, none⟩, []⟩,
     ⟨⟨.load false 1 (.slot 52), some 53, none⟩, []⟩,
     ⟨⟨.mv (.slot 7), some 54, none⟩, []⟩,
     ⟨⟨.lookup .i32 (.bool false) (.slot 53) (.slot 54) false, some 55, none⟩, []⟩,
     ⟨⟨.un .not (.slot 55), some 56, none⟩, []⟩,
     ⟨⟨.mv (.slot 56), some 57, none⟩, []⟩,
     ⟨⟨.faddr 4 (.slot 5), some 58, some (57, true)⟩, []⟩,
     ⟨⟨.load false 1 (.slot 58), some 59, some (57, true)⟩, []⟩,
     ⟨⟨.mv (.slot 7), some 60, some (57, true)⟩, []⟩,
     ⟨⟨.lookup .i32 (.bool false) (.slot 59) (.slot 60) false, some 61, some (57, true)⟩, []⟩,
     ⟨⟨.un .not (.slot 61), some 62, some (57, true)⟩, []⟩,
     ⟨⟨.pick (.slot 57) (.slot 62) (.const (.bool false)), some 63, none⟩, []⟩,
     ⟨⟨.mv (.slot 63), some 64, none⟩, []⟩,
     ⟨⟨.mv (.slot 10), some 65, some (64, true)⟩, []⟩,
     ⟨⟨.len .slice (.slot 65), some 66, some (64, true)⟩, []⟩,
     ⟨⟨.bin .gtr 3 .num (.slot 66) (.const (.int .i64 (.ofNat 2))), some 67, some (64, true)⟩, []⟩,
     ⟨⟨.pick (.slot 64) (.slot 67) (.const (.bool false)), some 68, none⟩, []⟩,
     ⟨⟨.mv (.slot 68), some 69, none⟩, []⟩,
     ⟨⟨.mv (.slot 0), some 70, some (69, true)⟩, []⟩,
     ⟨⟨.mv (.slot 12), some 71, some (69, true)⟩, []⟩,
     ⟨⟨.call (.const (.func 63 [] [])) [(.slot 70), (.slot 71)], some 72, some (69, true)⟩, []⟩,
     ⟨⟨.un .not (.slot 72), some 73, some (69, true)⟩, []⟩,
     ⟨⟨.pick (.slot 69) (.slot 73) (.const (.bool false)), some 74, none⟩, []⟩])
   (.cond (.slot 74)
    (.region false [⟨⟨.mv (.slot 0), some 75, none⟩, []⟩,
      ⟨⟨.mv (.slot 12), some 76, none⟩, []⟩,
      ⟨⟨.faddr 1 (.slot 4), some 77, none⟩, []⟩,
      ⟨⟨.load true 3 (.slot 77), some 78, none⟩, []⟩,
      ⟨⟨.mv (.slot 7), some 79, none⟩, []⟩,
      ⟨⟨.call (.const (.func 61 [] [])) [(.slot 78), (.slot 79)], some 80, none⟩, []⟩,
      ⟨⟨.call (.const (.func 16 [] [])) [(.slot 75), (.slot 76), (.slot 80), (.const (.bool true))], some 81, none⟩, []⟩])
    .skip))))))))
   (.region false [⟨⟨.bin .add 3 .num (.slot 18) (.const (.int .i64 (.ofNat 1))), some 82, none⟩, []⟩,
     ⟨⟨.mv (.slot 82), some 18, none⟩, []⟩])))))))),
  []⟩
theorem xf38_ok : compFunc Tryz.prog Tryz.f38 = some xf38 := by kernel_rfl
/-- slices.Clone[threshing/api.Clause,threshing/api.Lit] -/
def xf39 : XFunc := ⟨(.seq (.region false [⟨⟨.mv (.const .nils), some 2, none⟩, []⟩])
  (.seq (.seq (.region false [⟨⟨.mv (.slot 0), some 3, none⟩, []⟩,
    ⟨⟨.bin .eql 26 .slice (.slot 3) (.const .nils), some 4, none⟩, []⟩])
  (.cond (.slot 4)
   (.seq (.region false [⟨⟨.mv (.const .nils), some 2, none⟩, []⟩])
   .ret)
   .skip))
  (.seq (.region false [⟨⟨.bslice 1 [] [] 0, some 5, none⟩, []⟩,
    ⟨⟨.mv (.slot 0), some 6, none⟩, []⟩,
    ⟨⟨.append 1 4 (.slot 5) (.slot 6), some 7, none⟩, []⟩,
    ⟨⟨.mv (.slot 7), some 2, none⟩, []⟩])
  .ret))),
  [.tmp 2]⟩
theorem xf39_ok : compFunc Tryz.prog Tryz.f39 = some xf39 := by kernel_rfl
/-- slices.Sort[[]int64,int64] -/
def xf40 : XFunc := ⟨(.seq (.region false [⟨⟨.mv (.slot 0), some 3, none⟩, []⟩,
    ⟨⟨.len .slice (.slot 3), some 4, none⟩, []⟩,
    ⟨⟨.mv (.slot 4), some 2, none⟩, []⟩])
  (.region false [⟨⟨.mv (.slot 0), some 5, none⟩, []⟩,
    ⟨⟨.mv (.slot 2), some 6, none⟩, []⟩,
    ⟨⟨.mv (.slot 2), some 7, none⟩, []⟩,
    ⟨⟨.conv .u64 (.slot 7), some 8, none⟩, []⟩,
    ⟨⟨.call (.const (.func 65 [] [])) [(.slot 8)], some 9, none⟩, []⟩,
    ⟨⟨.call (.const (.func 64 [] [])) [(.slot 5), (.const (.int .i64 (.ofNat 0))), (.slot 6), (.slot 9)], some 10, none⟩, []⟩])),
  []⟩
theorem xf40_ok : compFunc Tryz.prog Tryz.f40 = some xf40 := by kernel_rfl
/-- maps.Keys[map[int64]threshing/api.Entry,int64,threshing/api.Entry]$1 -/
def xf41 : XFunc := ⟨(.seq (.region false [⟨⟨.load false 1 (.slot 1), some 4, none⟩, []⟩,
    ⟨⟨.range .i64 (.slot 4), some 5, none⟩, []⟩])
  (.block 0 (.loop (.seq (.region false [⟨⟨.next (.slot 5), some 6, none⟩, []⟩,
     ⟨⟨.extract (.slot 6) 0, some 7, none⟩, []⟩])
   (.seq (.cond (.slot 7)
    .skip
    (.exit 0))
   (.block 1 (.seq (.region false [⟨⟨.entry (.slot 5), some 8, none⟩, []⟩,
     ⟨⟨.extract (.slot 8) 0, some 9, none⟩, []⟩,
     ⟨⟨.mv (.slot 9), some 3, none⟩, []⟩])
   (.seq (.region false [⟨⟨.mv (.slot 0), some 10, none⟩, []⟩,
     ⟨⟨.mv (.slot 3), some 11, none⟩, []⟩,
     ⟨⟨.call (.slot 10) [(.slot 11)], some 12, none⟩, []⟩,
     ⟨⟨.un .not (.slot 12), some 13, none⟩, []⟩])
   (.cond (.slot 13)
    .ret
    .skip))))))))),
  []⟩
theorem xf41_ok : compFunc Tryz.prog Tryz.f41 = some xf41 := by kernel_rfl
/-- slices.AppendSeq[[]int64,int64] -/
def xf42 : XFunc := ⟨(.seq (.region false [⟨⟨.box (.slot 0), some 2, none⟩, []⟩,
    ⟨⟨.mv (.const .nils), some 4, none⟩, []⟩])
  (.seq (.seq (.region false [⟨⟨.mv (.slot 1), some 6, none⟩, []⟩])
  (.block 0 (.rangeFunc (.slot 6) [7] (.region false [⟨⟨.mv (.slot 7), some 5, none⟩, []⟩])
  (.block 1 (.region false [⟨⟨.load false 1 (.slot 2), some 8, none⟩, []⟩,
    ⟨⟨.mv (.slot 5), some 9, none⟩, []⟩,
    ⟨⟨.bslice 1 [(.int .i64 (.ofNat 0))] [(0, 1, (.slot 9))] 1, some 10, none⟩, []⟩,
    ⟨⟨.append 1 8 (.slot 8) (.slot 10), some 11, none⟩, []⟩,
    ⟨⟨.store 1 (.slot 2) (.slot 11), none, none⟩, []⟩])))))
  (.seq (.region false [⟨⟨.load false 1 (.slot 2), some 12, none⟩, []⟩,
    ⟨⟨.mv (.slot 12), some 4, none⟩, []⟩])
  .ret))),
  [.tmp 4]⟩
theorem xf42_ok : compFunc Tryz.prog Tryz.f42 = some xf42 := by kernel_rfl
/-- maps.Keys[map[int64]bool,int64,bool]$1 -/
def xf43 : XFunc := ⟨(.seq (.region false [⟨⟨.load false 1 (.slot 1), some 4, none⟩, []⟩,
    ⟨⟨.range .i64 (.slot 4), some 5, none⟩, []⟩])
  (.block 0 (.loop (.seq (.region false [⟨⟨.next (.slot 5), some 6, none⟩, []⟩,
     ⟨⟨.extract (.slot 6) 0, some 7, none⟩, []⟩])
   (.seq (.cond (.slot 7)
    .skip
    (.exit 0))
   (.block 1 (.seq (.region false [⟨⟨.entry (.slot 5), some 8, none⟩, []⟩,
     ⟨⟨.extract (.slot 8) 0, some 9, none⟩, []⟩,
     ⟨⟨.mv (.slot 9), some 3, none⟩, []⟩])
   (.seq (.region false [⟨⟨.mv (.slot 0), some 10, none⟩, []⟩,
     ⟨⟨.mv (.slot 3), some 11, none⟩, []⟩,
     ⟨⟨.call (.slot 10) [(.slot 11)], some 12, none⟩, []⟩,
     ⟨⟨.un .not (.slot 12), some 13, none⟩, []⟩])
   (.cond (.slot 13)
    .ret
    .skip))))))))),
  []⟩
theorem xf43_ok : compFunc Tryz.prog Tryz.f43 = some xf43 := by kernel_rfl
/-- (threshing/cnf.lit).variable -/
def xf44 : XFunc := ⟨(.seq (.region false [⟨⟨.mv (.const (.int .i64 (.ofNat 0))), some 2, none⟩, []⟩])
  (.seq (.seq (.region false [⟨⟨.mv (.slot 0), some 3, none⟩, []⟩,
    ⟨⟨.bin .lss 105 .num (.slot 3) (.const (.int .i32 (.ofNat 0))), some 4, none⟩, []⟩])
  (.cond (.slot 4)
   (.seq (.region false [⟨⟨.mv (.slot 0), some 5, none⟩, []⟩,
     ⟨⟨.conv .i64 (.slot 5), some 6, none⟩, []⟩,
     ⟨⟨.un .neg (.slot 6), some 7, none⟩, []⟩,
     ⟨⟨.mv (.slot 7), some 2, none⟩, []⟩])
   .ret)
   .skip))
  (.seq (.region false [⟨⟨.mv (.slot 0), some 8, none⟩, []⟩,
    ⟨⟨.conv .i64 (.slot 8), some 9, none⟩, []⟩,
    ⟨⟨.mv (.slot 9), some 2, none⟩, []⟩])
  .ret))),
  [.tmp 2]⟩
theorem xf44_ok : compFunc Tryz.prog Tryz.f44 = some xf44 := by kernel_rfl
/-- slices.SortFunc[threshing/api.Clause,threshing/api.Lit] -/
def xf45 : XFunc := ⟨(.seq (.region false [⟨⟨.mv (.slot 0), some 5, none⟩, []⟩,
    ⟨⟨.len .slice (.slot 5), some 6, none⟩, []⟩,
    ⟨⟨.mv (.slot 6), some 4, none⟩, []⟩])
  (.region false [⟨⟨.mv (.slot 0), some 7, none⟩, []⟩,
    ⟨⟨.mv (.slot 4), some 8, none⟩, []⟩,
    ⟨⟨.mv (.slot 4), some 9, none⟩, []⟩,
    ⟨⟨.conv .u64 (.slot 9), some 10, none⟩, []⟩,
    ⟨⟨.call (.const (.func 65 [] [])) [(.slot 10)], some 11, none⟩, []⟩,
    ⟨⟨.mv (.slot 1), some 12, none⟩, []⟩,
    ⟨⟨.call (.const (.func 66 [] [])) [(.slot 7), (.const (.int .i64 (.ofNat 0))), (.slot 8), (.slot 11), (.slot 12)], some 13, none⟩, []⟩])),
  []⟩
theorem xf45_ok : compFunc Tryz.prog Tryz.f45 = some xf45 := by kernel_rfl
/-- threshing/cnf.order -/
def xf46 : XFunc := ⟨(.seq (.region false [⟨⟨.mv (.const (.int .i64 (.ofNat 0))), some 4, none⟩, []⟩])
  (.seq (.region false [⟨⟨.mv (.slot 0), some 5, none⟩, []⟩,
    ⟨⟨.call (.const (.func 28 [] [])) [(.slot 5)], some 6, none⟩, []⟩,
    ⟨⟨.mv (.slot 1), some 7, none⟩, []⟩,
    ⟨⟨.call (.const (.func 28 [] [])) [(.slot 7)], some 8, none⟩, []⟩,
    ⟨⟨.call (.const (.func 68 [] [])) [(.slot 6), (.slot 8)], some 9, none⟩, []⟩,
    ⟨⟨.mv (.slot 0), some 10, none⟩, []⟩,
    ⟨⟨.mv (.slot 1), some 11, none⟩, []⟩,
    ⟨⟨.call (.const (.func 69 [] [])) [(.slot 10), (.slot 11)], some 12, none⟩, []⟩,
    ⟨⟨.bslice 1 [(.int .i64 (.ofNat 0)), (.int .i64 (.ofNat 0))] [(0, 1, (.slot 9)), (1, 1, (.slot 12))] 2, some 13, none⟩, []⟩,
    ⟨⟨.call (.const (.func 67 [] [])) [(.slot 13)], some 14, none⟩, []⟩,
    ⟨⟨.mv (.slot 14), some 4, none⟩, []⟩])
  .ret)),
  [.tmp 4]⟩
theorem xf46_ok : compFunc Tryz.prog Tryz.f46 = some xf46 := by kernel_rfl
/-- slices.Compact[threshing/api.Clause,threshing/api.Lit] -/
def xf47 : XFunc := ⟨(.seq (.region false [⟨⟨.mv (.const .nils), some 2, none⟩, []⟩])
  (.seq (.seq (.region false [⟨⟨.mv (.slot 0), some 6, none⟩, []⟩,
    ⟨⟨.len .slice (.slot 6), some 7, none⟩, []⟩,
    ⟨⟨.bin .lss 3 .num (.slot 7) (.const (.int .i64 (.ofNat 2))), some 8, none⟩, []⟩])
  (.cond (.slot 8)
   (.seq (.region false [⟨⟨.mv (.slot 0), some 9, none⟩, []⟩,
     ⟨⟨.mv (.slot 9), some 2, none⟩, []⟩])
   .ret)
   .skip))
  (.seq (.seq (.region false [⟨⟨.mv (.const (.int .i64 (.ofNat 1))), some 3, none⟩, []⟩])
  (.block 0 (.loop (.seq (.seq (.region false [⟨⟨.mv (.slot 3), some 10, none⟩, []⟩,
     ⟨⟨.mv (.slot 0), some 11, none⟩, []⟩,
     ⟨⟨.len .slice (.slot 11), some 12, none⟩, []⟩,
     ⟨⟨.bin .lss 3 .num (.slot 10) (.slot 12), some 13, none⟩, []⟩])
   (.cond (.slot 13)
    .skip
    (.exit 0)))
   (.seq (.block 1 (.seq (.region true [⟨⟨.mv (.slot 0), some 16, none⟩, []⟩,
     ⟨⟨.mv (.slot 3), some 17, none⟩, []⟩,
     ⟨⟨.iaddr 1 (.slot 16) (.slot 17), some 18, none⟩, []⟩,
     ⟨⟨.load false 1 (.slot 18), some 19, none⟩, []⟩,
     ⟨⟨.mv (.slot 0), some 20, none⟩, []⟩,
     ⟨⟨.mv (.slot 3), some 21, none⟩, []⟩,
     ⟨⟨.bin .sub 3 .num (.slot 21) (.const (.int .i64 (.ofNat 1))), some 22, none⟩, []⟩,
     ⟨⟨.iaddr 1 (.slot 20) (.slot 22), some 23, none⟩, []⟩,
     ⟨⟨.load false 1 (.slot 23), some 24, none⟩, []⟩,
     ⟨⟨.bin .eql 24 .num (.slot 19) (.slot 24), some 25, none⟩, []⟩])
   (.cond (.slot 25)
    (.seq (.region false [⟨⟨.mv (.slot 0), some 26, none⟩, []⟩,
      ⟨⟨.mv (.slot 3), some 27, none⟩, []⟩,
      ⟨⟨.slc 1 (.slot 26) (some (.slot 27)) none none, some 28, none⟩, []⟩,
      ⟨⟨.mv (.slot 28), some 4, none⟩, []⟩])
    (.seq (.seq (.region false [⟨⟨.mv (.const (.int .i64 (.ofNat 1))), some 5, none⟩, []⟩])
    (.block 2 (.loop (.seq (.seq (.region false [⟨⟨.mv (.slot 5), some 29, none⟩, []⟩,
       ⟨⟨.mv (.slot 4), some 30, none⟩, []⟩,
       ⟨⟨.len .slice (.slot 30), some 31, none⟩, []⟩,
       ⟨⟨.bin .lss 3 .num (.slot 29) (.slot 31), some 32, none⟩, []⟩])
     (.cond (.slot 32)
      .skip
      (.exit 2)))
     (.seq (.block 3 (.seq (.region true [⟨⟨.mv (.slot 4), some 35, none⟩, []⟩,
       ⟨⟨.mv (.slot 5), some 36, none⟩, []⟩,
       ⟨⟨.iaddr 1 (.slot 35) (.slot 36), some 37, none⟩, []⟩,
       ⟨⟨.load false 1 (.slot 37), some 38, none⟩, []⟩,
       ⟨⟨.mv (.slot 4), some 39, none⟩, []⟩,
       ⟨⟨.mv (.slot 5), some 40, none⟩, []⟩,
       ⟨⟨.bin .sub 3 .num (.slot 40) (.const (.int .i64 (.ofNat 1))), some 41, none⟩, []⟩,
       ⟨⟨.iaddr 1 (.slot 39) (.slot 41), some 42, none⟩, []⟩,
       ⟨⟨.load false 1 (.slot 42), some 43, none⟩, []⟩,
       ⟨⟨.bin .neq 24 .num (.slot 38) (.slot 43), some 44, none⟩, []⟩])
     (.cond (.slot 44)
      (.seq (.region false [⟨⟨.mv (.slot 0), some 45, none⟩, []⟩,
        ⟨⟨.mv (.slot 3), some 46, none⟩, []⟩,
        ⟨⟨.mv (.slot 4), some 47, none⟩, []⟩,
        ⟨⟨.mv (.slot 5), some 48, none⟩, []⟩,
        ⟨⟨.iaddr 1 (.slot 47) (.slot 48), some 49, none⟩, []⟩,
        ⟨⟨.load false 1 (.slot 49), some 50, none⟩, []⟩,
        ⟨⟨.iaddr 1 (.slot 45) (.slot 46), some 51, none⟩, []⟩,
        ⟨⟨.store 1 (.slot 51) (.slot 50), none, none⟩, []⟩])
      (.region false [⟨⟨.mv (.slot 3), some 52, none⟩, []⟩,
        ⟨⟨.bin .add 3 .num (.slot 52) (.const (.int .i64 (.ofNat 1))), some 53, none⟩, []⟩,
        ⟨⟨.mv (.slot 53), some 3, none⟩, []⟩]))
      .skip)))
     (.region false [⟨⟨.mv (.slot 5), some 33, none⟩, []⟩,
       ⟨⟨.bin .add 3 .num (.slot 33) (.const (.int .i64 (.ofNat 1))), some 34, none⟩, []⟩,
       ⟨⟨.mv (.slot 34), some 5, none⟩, []⟩]))))))
    (.seq (.region false [⟨⟨.mv (.slot 0), some 54, none⟩, []⟩,
      ⟨⟨.mv (.slot 3), some 55, none⟩, []⟩,
      ⟨⟨.slc 1 (.slot 54) (some (.slot 55)) none none, some 56, none⟩, []⟩,
      ⟨⟨.clear [(.int .i32 (.ofNat 0))] (.slot 56), none, none⟩, []⟩])
    (.seq (.region false [⟨⟨.mv (.slot 0), some 57, none⟩, []⟩,
      ⟨⟨.mv (.slot 3), some 58, none⟩, []⟩,
      ⟨⟨.slc 1 (.slot 57) none (some (.slot 58)) none, some 59, none⟩, []⟩,
      ⟨⟨.mv (.slot 59), some 2, none⟩, []⟩])
    .ret))))
    .skip)))
   (.region false [⟨⟨.mv (.slot 3), some 14, none⟩, []⟩,
     ⟨⟨.bin .add 3 .num (.slot 14) (.const (.int .i64 (.ofNat 1))), some 15, none⟩, []⟩,
     ⟨⟨.mv (.slot 15), some 3, none⟩, []⟩]))))))
  (.seq (.region false [⟨⟨.mv (.slot 0), some 60, none⟩, []⟩,
    ⟨⟨.mv (.slot 60), some 2, none⟩, []⟩])
  .ret)))),
  [.tmp 2]⟩
theorem xf47_ok : compFunc Tryz.prog Tryz.f47 = some xf47 := by kernel_rfl
/-- slices.Clip[threshing/api.Clause,threshing/api.Lit] -/
def xf48 : XFunc := ⟨(.seq (.region false [⟨⟨.mv (.const .nils), some 2, none⟩, []⟩])
  (.seq (.region false [⟨⟨.mv (.slot 0), some 3, none⟩, []⟩,
    ⟨⟨.mv (.slot 0), some 4, none⟩, []⟩,
    ⟨⟨.len .slice (.slot 4), some 5, none⟩, []⟩,
    ⟨⟨.mv (.slot 0), some 6, none⟩, []⟩,
    ⟨⟨.len .slice (.slot 6), some 7, none⟩, []⟩,
    ⟨⟨.slc 1 (.slot 3) none (some (.slot 5)) (some (.slot 7)), some 8, none⟩, []⟩,
    ⟨⟨.mv (.slot 8), some 2, none⟩, []⟩])
  .ret)),
  [.tmp 2]⟩
theorem xf48_ok : compFunc Tryz.prog Tryz.f48 = some xf48 := by kernel_rfl
/-- container/heap.down -/
def xf49 : XFunc := ⟨(.seq (.region false [⟨⟨.mv (.const (.bool false)), some 6, none⟩, []⟩])
  (.seq (.region false [⟨⟨.mv (.slot 1), some 11, none⟩, []⟩,
    ⟨⟨.mv (.slot 11), some 7, none⟩, []⟩])
  (.seq (.block 0 (.loop (.block 1 (.seq (.region false [⟨⟨.mv (.slot 7), some 12, none⟩, []⟩,
     ⟨⟨.bin .mul 3 .num (.const (.int .i64 (.ofNat 2))) (.slot 12), some 13, none⟩, []⟩,
     ⟨⟨.bin .add 3 .num (.slot 13) (.const (.int .i64 (.ofNat 1))), some 14, none⟩, []⟩,
     ⟨⟨.mv (.slot 14), some 8, none⟩, []⟩])
   (.seq (.seq (.region false [⟨⟨.mv (.slot 8), some 15, none⟩, []⟩,
     ⟨⟨.mv (.slot 2), some 16, none⟩, []⟩,
     ⟨⟨.bin .geq 3 .num (.slot 15) (.slot 16), some 17, none⟩, []⟩,
     ⟨⟨.mv (.slot 17), some 18, none⟩, []⟩,
     ⟨⟨.mv (.slot 8), some 19, some (18, false)⟩, []⟩,
     ⟨⟨.bin .lss 3 .num (.slot 19) (.const (.int .i64 (.ofNat 0))), some 20, some (18, false)⟩, []⟩,
     ⟨⟨.pick (.slot 18) (.const (.bool true)) (.slot 20), some 21, none⟩, []⟩])
   (.cond (.slot 21)
    (.exit 0)
    .skip))
   (.seq (.region false [⟨⟨.mv (.slot 8), some 22, none⟩, []⟩,
     ⟨⟨.mv (.slot 22), some 9, none⟩, []⟩])
   (.seq (.seq (.region false [⟨⟨.mv (.slot 8), some 23, none⟩, []⟩,
     ⟨⟨.bin .add 3 .num (.slot 23) (.const (.int .i64 (.ofNat 1))), some 24, none⟩, []⟩,
     ⟨⟨.mv (.slot 24), some 10, none⟩, []⟩])
   (.seq (.region false [⟨⟨.mv (.slot 10), some 25, none⟩, []⟩,
     ⟨⟨.mv (.slot 2), some 26, none⟩, []⟩,
     ⟨⟨.bin .lss 3 .num (.slot 25) (.slot 26), some 27, none⟩, []⟩,
     ⟨⟨.mv (.slot 27), some 28, none⟩, []⟩,
     ⟨⟨.mv (.slot 0), some 29, some (28, true)⟩, []⟩,
     ⟨⟨.mv (.slot 10), some 30, some (28, true)⟩, []⟩,
     ⟨⟨.mv (.slot 8), some 31, some (28, true)⟩, []⟩,
     ⟨⟨.invoke (.slot 29) [(84, 132, none), (88, 132, some (false, 1))] [(.slot 30), (.slot 31)], some 32, some (28, true)⟩, []⟩,
     ⟨⟨.pick (.slot 28) (.slot 32) (.const (.bool false)), some 33, none⟩, []⟩])
   (.cond (.slot 33)
    (.region false [⟨⟨.mv (.slot 10), some 34, none⟩, []⟩,
      ⟨⟨.mv (.slot 34), some 9, none⟩, []⟩])
    .skip)))
   (.seq (.seq (.region false [⟨⟨.mv (.slot 0), some 35, none⟩, []⟩,
     ⟨⟨.mv (.slot 9), some 36, none⟩, []⟩,
     ⟨⟨.mv (.slot 7), some 37, none⟩, []⟩,
     ⟨⟨.invoke (.slot 35) [(84, 132, none), (88, 132, some (false, 1))] [(.slot 36), (.slot 37)], some 38, none⟩, []⟩,
     ⟨⟨.un .not (.slot 38), some 39, none⟩, []⟩])
   (.cond (.slot 39)
    (.exit 0)
    .skip))
   (.seq (.region false [⟨⟨.mv (.slot 0), some 40, none⟩, []⟩,
     ⟨⟨.mv (.slot 7), some 41, none⟩, []⟩,
     ⟨⟨.mv (.slot 9), some 42, none⟩, []⟩,
     ⟨⟨.invoke (.slot 40) [(84, 133, none), (88, 133, some (false, 1))] [(.slot 41), (.slot 42)], some 43, none⟩, []⟩])
   (.region false [⟨⟨.mv (.slot 9), some 44, none⟩, []⟩,
     ⟨⟨.mv (.slot 44), some 7, none⟩, []⟩]))))))))))
  (.seq (.region false [⟨⟨.mv (.slot 7), some 45, none⟩, []⟩,
    ⟨⟨.mv (.slot 1), some 46, none⟩, []⟩,
    ⟨⟨.bin .gtr 3 .num (.slot 45) (.slot 46), some 47, none⟩, []⟩,
    ⟨⟨.mv (.slot 47), some 6, none⟩, []⟩])
  .ret)))),
  [.tmp 6]⟩
theorem xf49_ok : compFunc Tryz.prog Tryz.f49 = some xf49 := by kernel_rfl
end Go.Proofs.YtfcafnbpkapikaaGreat

/- The functions of the program in X's code, printed by a program of ours; each is what the program's own is turned to. -/
import Derived.Test.YtfcafnbpkapikaaGreatProg
import Derived.Test.YtfcafnbpkapikaaGreatXc
import Derived.KernelRfl
namespace Go.Proofs.YtfcafnbpkapikaaGreat
open Go.Xr
/-- container/heap.Push -/
def xf50 : XFunc := ⟨(.seq (.region false [⟨⟨.mv (.slot 0), some 4, none⟩, []⟩,
    ⟨⟨.mv (.slot 1), some 5, none⟩, []⟩,
    ⟨⟨.invoke (.slot 4) [(88, 135, none)] [(.slot 5)], some 6, none⟩, []⟩])
  (.region false [⟨⟨.mv (.slot 0), some 7, none⟩, []⟩,
    ⟨⟨.mv (.slot 0), some 8, none⟩, []⟩,
    ⟨⟨.invoke (.slot 8) [(17, 128, none), (84, 51, none), (88, 51, some (false, 1))] [], some 9, none⟩, []⟩,
    ⟨⟨.bin .sub 3 .num (.slot 9) (.const (.int .i64 (.ofNat 1))), some 10, none⟩, []⟩,
    ⟨⟨.call (.const (.func 70 [] [])) [(.slot 7), (.slot 10)], some 11, none⟩, []⟩])),
  []⟩
theorem xf50_ok : compFunc Tryz.prog Tryz.f50 = some xf50 := by kernel_rfl
/-- (threshing/unit.ids).Len -/
def xf51 : XFunc := ⟨(.seq (.region false [⟨⟨.mv (.const (.int .i64 (.ofNat 0))), some 2, none⟩, []⟩])
  (.seq (.region false [⟨⟨.mv (.slot 0), some 3, none⟩, []⟩,
    ⟨⟨.len .slice (.slot 3), some 4, none⟩, []⟩,
    ⟨⟨.mv (.slot 4), some 2, none⟩, []⟩])
  .ret)),
  [.tmp 2]⟩
theorem xf51_ok : compFunc Tryz.prog Tryz.f51 = some xf51 := by kernel_rfl
/-- container/heap.Pop -/
def xf52 : XFunc := ⟨(.seq (.region false [⟨⟨.mv (.const .nili), some 2, none⟩, []⟩])
  (.seq (.region false [⟨⟨.mv (.slot 0), some 4, none⟩, []⟩,
    ⟨⟨.invoke (.slot 4) [(17, 128, none), (84, 51, none), (88, 51, some (false, 1))] [], some 5, none⟩, []⟩,
    ⟨⟨.bin .sub 3 .num (.slot 5) (.const (.int .i64 (.ofNat 1))), some 6, none⟩, []⟩,
    ⟨⟨.mv (.slot 6), some 3, none⟩, []⟩])
  (.seq (.region false [⟨⟨.mv (.slot 0), some 7, none⟩, []⟩,
    ⟨⟨.mv (.slot 3), some 8, none⟩, []⟩,
    ⟨⟨.invoke (.slot 7) [(84, 133, none), (88, 133, some (false, 1))] [(.const (.int .i64 (.ofNat 0))), (.slot 8)], some 9, none⟩, []⟩])
  (.seq (.region false [⟨⟨.mv (.slot 0), some 10, none⟩, []⟩,
    ⟨⟨.mv (.slot 3), some 11, none⟩, []⟩,
    ⟨⟨.call (.const (.func 49 [] [])) [(.slot 10), (.const (.int .i64 (.ofNat 0))), (.slot 11)], some 12, none⟩, []⟩])
  (.seq (.region false [⟨⟨.mv (.slot 0), some 13, none⟩, []⟩,
    ⟨⟨.invoke (.slot 13) [(88, 134, none)] [], some 14, none⟩, []⟩,
    ⟨⟨.mv (.slot 14), some 2, none⟩, []⟩])
  .ret))))),
  [.tmp 2]⟩
theorem xf52_ok : compFunc Tryz.prog Tryz.f52 = some xf52 := by kernel_rfl
/-- (*threshing/unit.state).next$1 -/
def xf53 : XFunc := ⟨(.seq (.region false [⟨⟨.mv (.const (.bool false)), some 3, none⟩, []⟩])
  (.seq (.region false [⟨⟨.load false 1 (.slot 1), some 4, none⟩, []⟩,
    ⟨⟨.nilCheck (.slot 4), some 5, none⟩, []⟩,
    ⟨⟨.faddr 3 (.slot 5), some 6, none⟩, []⟩,
    ⟨⟨.load false 1 (.slot 6), some 7, none⟩, []⟩,
    ⟨⟨.mv (.slot 0), some 8, none⟩, []⟩,
    ⟨⟨.lookup .i32 (.bool false) (.slot 7) (.slot 8) false, some 9, none⟩, []⟩,
    ⟨⟨.mv (.slot 9), some 3, none⟩, []⟩])
  .ret)),
  [.tmp 3]⟩
theorem xf53_ok : compFunc Tryz.prog Tryz.f53 = some xf53 := by kernel_rfl
/-- slices.ContainsFunc[threshing/api.Clause,threshing/api.Lit] -/
def xf54 : XFunc := ⟨(.seq (.region false [⟨⟨.mv (.const (.bool false)), some 4, none⟩, []⟩])
  (.seq (.region false [⟨⟨.mv (.slot 0), some 5, none⟩, []⟩,
    ⟨⟨.mv (.slot 1), some 6, none⟩, []⟩,
    ⟨⟨.call (.const (.func 55 [] [])) [(.slot 5), (.slot 6)], some 7, none⟩, []⟩,
    ⟨⟨.bin .geq 3 .num (.slot 7) (.const (.int .i64 (.ofNat 0))), some 8, none⟩, []⟩,
    ⟨⟨.mv (.slot 8), some 4, none⟩, []⟩])
  .ret)),
  [.tmp 4]⟩
theorem xf54_ok : compFunc Tryz.prog Tryz.f54 = some xf54 := by kernel_rfl
/-- slices.IndexFunc[threshing/api.Clause,threshing/api.Lit] -/
def xf55 : XFunc := ⟨(.seq (.region false [⟨⟨.mv (.const (.int .i64 (.ofNat 0))), some 4, none⟩, []⟩])
  (.seq (.seq (.region false [⟨⟨.mv (.slot 0), some 6, none⟩, []⟩,
    ⟨⟨.len .slice (.slot 6), some 7, none⟩, []⟩,
    ⟨⟨.mv (.const (.int .i64 (.ofNat 0))), some 8, none⟩, []⟩])
  (.block 0 (.loop (.seq (.region false [⟨⟨.bin .lss 3 .num (.slot 8) (.slot 7), some 9, none⟩, []⟩])
   (.seq (.cond (.slot 9)
    .skip
    (.exit 0))
   (.seq (.block 1 (.seq (.region false [⟨⟨.mv (.slot 8), some 10, none⟩, []⟩,
     ⟨⟨.mv (.slot 10), some 5, none⟩, []⟩])
   (.seq (.region false [⟨⟨.mv (.slot 1), some 11, none⟩, []⟩,
     ⟨⟨.mv (.slot 0), some 12, none⟩, []⟩,
     ⟨⟨.mv (.slot 5), some 13, none⟩, []⟩,
     ⟨⟨.iaddr 1 (.slot 12) (.slot 13), some 14, none⟩, []⟩,
     ⟨⟨.load false 1 (.slot 14), some 15, none⟩, []⟩,
     ⟨⟨.call (.slot 11) [(.slot 15)], some 16, none⟩, []⟩])
   (.cond (.slot 16)
    (.seq (.region false [⟨⟨.mv (.slot 5), some 17, none⟩, []⟩,
      ⟨⟨.mv (.slot 17), some 4, none⟩, []⟩])
    .ret)
    .skip))))
   (.region false [⟨⟨.bin .add 3 .num (.slot 8) (.const (.int .i64 (.ofNat 1))), some 18, none⟩, []⟩,
     ⟨⟨.mv (.slot 18), some 8, none⟩, []⟩])))))))
  (.seq (.region false [⟨⟨.mv (.const (.int .i64 (.negSucc 0))), some 4, none⟩, []⟩])
  .ret))),
  [.tmp 4]⟩
theorem xf55_ok : compFunc Tryz.prog Tryz.f55 = some xf55 := by kernel_rfl
/-- (*threshing/unit.state).next$2 -/
def xf56 : XFunc := ⟨(.seq (.region false [⟨⟨.mv (.const (.bool false)), some 3, none⟩, []⟩])
  (.seq (.region false [⟨⟨.load false 1 (.slot 1), some 4, none⟩, []⟩,
    ⟨⟨.nilCheck (.slot 4), some 5, none⟩, []⟩,
    ⟨⟨.faddr 3 (.slot 5), some 6, none⟩, []⟩,
    ⟨⟨.load false 1 (.slot 6), some 7, none⟩, []⟩,
    ⟨⟨.mv (.slot 0), some 8, none⟩, []⟩,
    ⟨⟨.un .neg (.slot 8), some 9, none⟩, []⟩,
    ⟨⟨.lookup .i32 (.bool false) (.slot 7) (.slot 9) false, some 10, none⟩, []⟩,
    ⟨⟨.un .not (.slot 10), some 11, none⟩, []⟩,
    ⟨⟨.mv (.slot 11), some 3, none⟩, []⟩])
  .ret)),
  [.tmp 3]⟩
theorem xf56_ok : compFunc Tryz.prog Tryz.f56 = some xf56 := by kernel_rfl
/-- (*threshing/base.Base).full -/
def xf57 : XFunc := ⟨(.seq (.region false [⟨⟨.mv (.const (.bool false)), some 2, none⟩, []⟩])
  (.seq (.region false [⟨⟨.mv (.slot 0), some 3, none⟩, []⟩,
    ⟨⟨.nilCheck (.slot 3), some 4, none⟩, []⟩,
    ⟨⟨.faddr 5 (.slot 4), some 5, none⟩, []⟩,
    ⟨⟨.load false 1 (.slot 5), some 6, none⟩, []⟩,
    ⟨⟨.len .slice (.slot 6), some 7, none⟩, []⟩,
    ⟨⟨.bin .geq 3 .num (.slot 7) (.const (.int .i64 (.ofNat 4194304))), some 8, none⟩, []⟩,
    ⟨⟨.mv (.slot 8), some 2, none⟩, []⟩])
  .ret)),
  [.tmp 2]⟩
theorem xf57_ok : compFunc Tryz.prog Tryz.f57 = some xf57 := by kernel_rfl
/-- (*threshing/base.Base).right -/
def xf58 : XFunc := ⟨(.seq (.region false [⟨⟨.box (.slot 0), some 2, none⟩, []⟩,
    ⟨⟨.mv (.const (.bool false)), some 4, none⟩, []⟩])
  (.seq (.region false [⟨⟨.mv (.slot 1), some 5, none⟩, []⟩,
    ⟨⟨.mkfunc 71 [] [(.slot 2)], some 6, none⟩, []⟩,
    ⟨⟨.call (.const (.func 54 [] [])) [(.slot 5), (.slot 6)], some 7, none⟩, []⟩,
    ⟨⟨.un .not (.slot 7), some 8, none⟩, []⟩,
    ⟨⟨.mv (.slot 8), some 4, none⟩, []⟩])
  .ret)),
  [.tmp 4]⟩
theorem xf58_ok : compFunc Tryz.prog Tryz.f58 = some xf58 := by kernel_rfl
/-- (*threshing/base.Base).follows -/
def xf59 : XFunc := ⟨(.seq (.region false [⟨⟨.mv (.const (.int .i64 (.ofNat 0))), some 6, none⟩, []⟩])
  (.seq (.region false [⟨⟨.mkmap .i32, some 18, none⟩, []⟩,
    ⟨⟨.alloc [.nilm], some 7, none⟩, []⟩,
    ⟨⟨.store 1 (.slot 7) (.slot 18), none, none⟩, []⟩])
  (.seq (.region false [⟨⟨.mkfunc 72 [] [(.slot 7)], some 19, none⟩, []⟩,
    ⟨⟨.mv (.slot 19), some 8, none⟩, []⟩])
  (.seq (.seq (.region false [⟨⟨.mv (.slot 1), some 20, none⟩, []⟩,
    ⟨⟨.len .slice (.slot 20), some 21, none⟩, []⟩,
    ⟨⟨.mv (.const (.int .i64 (.ofNat 0))), some 22, none⟩, []⟩])
  (.block 0 (.loop (.seq (.region false [⟨⟨.bin .lss 3 .num (.slot 22) (.slot 21), some 23, none⟩, []⟩])
   (.seq (.cond (.slot 23)
    .skip
    (.exit 0))
   (.seq (.block 1 (.seq (.region false [⟨⟨.iaddr 1 (.slot 20) (.slot 22), some 24, none⟩, []⟩,
     ⟨⟨.load false 1 (.slot 24), some 25, none⟩, []⟩,
     ⟨⟨.mv (.slot 25), some 10, none⟩, []⟩])
   (.seq (.region false [⟨⟨.mv (.slot 8), some 26, none⟩, []⟩,
     ⟨⟨.mv (.slot 10), some 27, none⟩, []⟩,
     ⟨⟨.call (.slot 26) [(.slot 27)], some 28, none⟩, []⟩])
   (.cond (.slot 28)
    (.seq (.region false [⟨⟨.mv (.const (.int .i64 (.ofNat 0))), some 6, none⟩, []⟩])
    .ret)
    .skip))))
   (.region false [⟨⟨.bin .add 3 .num (.slot 22) (.const (.int .i64 (.ofNat 1))), some 29, none⟩, []⟩,
     ⟨⟨.mv (.slot 29), some 22, none⟩, []⟩])))))))
  (.seq (.seq (.region false [⟨⟨.mv (.slot 2), some 30, none⟩, []⟩,
    ⟨⟨.len .slice (.slot 30), some 31, none⟩, []⟩,
    ⟨⟨.mv (.const (.int .i64 (.ofNat 0))), some 32, none⟩, []⟩])
  (.block 2 (.loop (.seq (.region false [⟨⟨.bin .lss 3 .num (.slot 32) (.slot 31), some 33, none⟩, []⟩])
   (.seq (.cond (.slot 33)
    .skip
    (.exit 2))
   (.seq (.block 3 (.seq (.region false [⟨⟨.iaddr 1 (.slot 30) (.slot 32), some 34, none⟩, []⟩,
     ⟨⟨.load false 1 (.slot 34), some 35, none⟩, []⟩,
     ⟨⟨.mv (.slot 35), some 12, none⟩, []⟩])
   (.seq (.region false [⟨⟨.mv (.slot 0), some 37, none⟩, []⟩,
     ⟨⟨.nilCheck (.slot 37), some 38, none⟩, []⟩,
     ⟨⟨.faddr 1 (.slot 38), some 39, none⟩, []⟩,
     ⟨⟨.load false 1 (.slot 39), some 40, none⟩, []⟩,
     ⟨⟨.mv (.slot 12), some 41, none⟩, []⟩,
     ⟨⟨.lookup .i64 (.agg [(.int .i64 (.ofNat 0)), .nils, (.bool false)]) (.slot 40) (.slot 41) true, some 42, none⟩, []⟩,
     ⟨⟨.mv (.slot 42), some 36, none⟩, []⟩,
     ⟨⟨.extract (.slot 36) 0, some 43, none⟩, []⟩,
     ⟨⟨.extract (.slot 36) 1, some 44, none⟩, []⟩,
     ⟨⟨.alloc [(.int .i64 (.ofNat 0)), .nils, (.bool false)], some 13, none⟩, []⟩,
     ⟨⟨.store 3 (.slot 13) (.slot 43), none, none⟩, []⟩,
     ⟨⟨.mv (.slot 44), some 14, none⟩, []⟩])
   (.seq (.seq (.region false [⟨⟨.mv (.slot 14), some 45, none⟩, []⟩,
     ⟨⟨.un .not (.slot 45), some 46, none⟩, []⟩])
   (.cond (.slot 46)
    (.seq (.region false [⟨⟨.mv (.const (.int .i64 (.ofNat 60))), some 6, none⟩, []⟩])
    .ret)
    .skip))
   (.seq (.region false [⟨⟨.mv (.const (.int .i32 (.ofNat 0))), some 15, none⟩, []⟩])
   (.seq (.seq (.region false [⟨⟨.faddr 1 (.slot 13), some 47, none⟩, []⟩,
     ⟨⟨.load false 1 (.slot 47), some 48, none⟩, []⟩,
     ⟨⟨.len .slice (.slot 48), some 49, none⟩, []⟩,
     ⟨⟨.mv (.const (.int .i64 (.ofNat 0))), some 50, none⟩, []⟩])
   (.block 4 (.loop (.seq (.region false [⟨⟨.bin .lss 3 .num (.slot 50) (.slot 49), some 51, none⟩, []⟩])
    (.seq (.cond (.slot 51)
     .skip
     (.exit 4))
    (.seq (.block 5 (.seq (.region false [⟨⟨.iaddr 1 (.slot 48) (.slot 50), some 52, none⟩, []⟩,
      ⟨⟨.load false 1 (.slot 52), some 53, none⟩, []⟩,
      ⟨⟨.mv (.slot 53), some 17, none⟩, []⟩])
    (.block 6 (.seq (.seq (.region false [⟨⟨.load false 1 (.slot 7), some 56, none⟩, []⟩,
      ⟨⟨.mv (.slot 17), some 57, none⟩, []⟩,
      ⟨⟨.lookup .i32 (.bool false) (.slot 56) (.slot 57) false, some 58, none⟩, []⟩,
      ⟨⟨.mv (.slot 58), some 55, none⟩, []⟩])
    (.cond (.slot 55)
     .skip
     (.region false [⟨⟨.mv (.slot 17), some 59, none⟩, []⟩,
       ⟨⟨.mv (.slot 15), some 60, none⟩, []⟩,
       ⟨⟨.bin .eql 24 .num (.slot 59) (.slot 60), some 61, none⟩, []⟩,
       ⟨⟨.mv (.slot 61), some 55, none⟩, []⟩])))
    (.cond (.slot 55)
     .skip
     (.seq (.region false [⟨⟨.mv (.slot 15), some 63, none⟩, []⟩,
       ⟨⟨.bin .neq 24 .num (.slot 63) (.const (.int .i32 (.ofNat 0))), some 64, none⟩, []⟩,
       ⟨⟨.mv (.slot 64), some 62, none⟩, []⟩])
     (.cond (.slot 62)
      (.seq (.region false [⟨⟨.mv (.const (.int .i64 (.ofNat 60))), some 6, none⟩, []⟩])
      .ret)
      (.region false [⟨⟨.mv (.slot 17), some 54, none⟩, []⟩,
        ⟨⟨.mv (.slot 54), some 15, none⟩, []⟩]))))))))
    (.region false [⟨⟨.bin .add 3 .num (.slot 50) (.const (.int .i64 (.ofNat 1))), some 65, none⟩, []⟩,
      ⟨⟨.mv (.slot 65), some 50, none⟩, []⟩])))))))
   (.seq (.block 7 (.seq (.region false [⟨⟨.mv (.slot 15), some 67, none⟩, []⟩,
     ⟨⟨.bin .eql 24 .num (.slot 67) (.const (.int .i32 (.ofNat 0))), some 68, none⟩, []⟩,
     ⟨⟨.mv (.slot 68), some 66, none⟩, []⟩])
   (.cond (.slot 66)
    (.seq (.region false [⟨⟨.mv (.const (.int .i64 (.ofNat 0))), some 6, none⟩, []⟩])
    .ret)
    (.seq (.region false [⟨⟨.load false 1 (.slot 7), some 70, none⟩, []⟩,
      ⟨⟨.mv (.slot 15), some 71, none⟩, []⟩,
      ⟨⟨.un .neg (.slot 71), some 72, none⟩, []⟩,
      ⟨⟨.lookup .i32 (.bool false) (.slot 70) (.slot 72) false, some 73, none⟩, []⟩,
      ⟨⟨.mv (.slot 73), some 69, none⟩, []⟩])
    (.cond (.slot 69)
     (.seq (.region false [⟨⟨.mv (.const (.int .i64 (.ofNat 60))), some 6, none⟩, []⟩])
     .ret)
     .skip)))))
   (.region false [⟨⟨.mv (.slot 8), some 74, none⟩, []⟩,
     ⟨⟨.mv (.slot 15), some 75, none⟩, []⟩,
     ⟨⟨.un .neg (.slot 75), some 76, none⟩, []⟩,
     ⟨⟨.call (.slot 74) [(.slot 76)], some 77, none⟩, []⟩]))))))))
   (.region false [⟨⟨.bin .add 3 .num (.slot 32) (.const (.int .i64 (.ofNat 1))), some 78, none⟩, []⟩,
     ⟨⟨.mv (.slot 78), some 32, none⟩, []⟩])))))))
  (.seq (.region false [⟨⟨.mv (.const (.int .i64 (.ofNat 61))), some 6, none⟩, []⟩])
  .ret)))))),
  [.tmp 6]⟩
theorem xf59_ok : compFunc Tryz.prog Tryz.f59 = some xf59 := by kernel_rfl
/-- (*threshing/base.Base).note -/
def xf60 : XFunc := ⟨(.seq (.region false [⟨⟨.box (.slot 1), some 3, none⟩, []⟩,
    ⟨⟨.mv (.const (.int .i64 (.ofNat 0))), some 4, none⟩, []⟩])
  (.seq (.region true [⟨⟨.mv (.slot 0), some 5, none⟩, []⟩,
    ⟨⟨.mv (.slot 0), some 6, none⟩, []⟩,
    ⟨⟨.nilCheck (.slot 6), some 7, none⟩, []⟩,
    ⟨⟨.faddr 7 (.slot 7), some 8, none⟩, []⟩,
    ⟨⟨.load false 1 (.slot 8), some 9, none⟩, []⟩,
    ⟨⟨.load true 6 (.slot 3), some 10, none⟩, []⟩,
    ⟨⟨.bslice 6 [(.int .u8 (.ofNat 0)), (.int .i64 (.ofNat 0)), (.int .i64 (.ofNat 0)), (.bool false), .nils, .nils] [(0, 6, (.slot 10))] 1, some 11, none⟩, [⟨.load false 1 (.slot 8), some 9, none⟩]⟩,
    ⟨⟨.append 6 80 (.slot 9) (.slot 11), some 12, none⟩, []⟩,
    ⟨⟨.nilCheck (.slot 5), some 13, none⟩, []⟩,
    ⟨⟨.faddr 7 (.slot 13), some 14, none⟩, []⟩,
    ⟨⟨.store 1 (.slot 14) (.slot 12), none, none⟩, []⟩])
  (.seq (.region false [⟨⟨.mv (.const (.int .i64 (.ofNat 0))), some 4, none⟩, []⟩])
  .ret))),
  [.tmp 4]⟩
theorem xf60_ok : compFunc Tryz.prog Tryz.f60 = some xf60 := by kernel_rfl
/-- (threshing/unit.Trail).Upto -/
def xf61 : XFunc := ⟨(.seq (.region false [⟨⟨.box (.slot 0), some 2, none⟩, []⟩,
    ⟨⟨.mv (.const .nils), some 4, none⟩, []⟩])
  (.seq (.region false [⟨⟨.faddr 0 (.slot 2), some 7, none⟩, []⟩,
    ⟨⟨.load false 1 (.slot 7), some 8, none⟩, []⟩,
    ⟨⟨.len .slice (.slot 8), some 9, none⟩, []⟩,
    ⟨⟨.faddr 1 (.slot 2), some 10, none⟩, []⟩,
    ⟨⟨.load false 1 (.slot 10), some 11, none⟩, []⟩,
    ⟨⟨.len .slice (.slot 11), some 12, none⟩, []⟩,
    ⟨⟨.bin .sub 3 .num (.slot 9) (.slot 12), some 13, none⟩, []⟩,
    ⟨⟨.mv (.slot 13), some 5, none⟩, []⟩])
  (.seq (.region false [⟨⟨.faddr 0 (.slot 2), some 14, none⟩, []⟩,
    ⟨⟨.load false 1 (.slot 14), some 15, none⟩, []⟩,
    ⟨⟨.mv (.slot 1), some 16, none⟩, []⟩,
    ⟨⟨.call (.const (.func 73 [] [])) [(.slot 15), (.slot 16)], some 17, none⟩, []⟩,
    ⟨⟨.mv (.slot 17), some 6, none⟩, []⟩])
  (.seq (.seq (.region false [⟨⟨.mv (.slot 6), some 18, none⟩, []⟩,
    ⟨⟨.mv (.slot 5), some 19, none⟩, []⟩,
    ⟨⟨.bin .lss 3 .num (.slot 18) (.slot 19), some 20, none⟩, []⟩])
  (.cond (.slot 20)
   (.seq (.region false [⟨⟨.mv (.const .nils), some 4, none⟩, []⟩])
   .ret)
   .skip))
  (.seq (.region false [⟨⟨.faddr 1 (.slot 2), some 21, none⟩, []⟩,
    ⟨⟨.load false 1 (.slot 21), some 22, none⟩, []⟩,
    ⟨⟨.mv (.slot 6), some 23, none⟩, []⟩,
    ⟨⟨.mv (.slot 5), some 24, none⟩, []⟩,
    ⟨⟨.bin .sub 3 .num (.slot 23) (.slot 24), some 25, none⟩, []⟩,
    ⟨⟨.bin .add 3 .num (.slot 25) (.const (.int .i64 (.ofNat 1))), some 26, none⟩, []⟩,
    ⟨⟨.slc 1 (.slot 22) none (some (.slot 26)) none, some 27, none⟩, []⟩,
    ⟨⟨.call (.const (.func 35 [] [])) [(.slot 27)], some 28, none⟩, []⟩,
    ⟨⟨.mv (.slot 28), some 4, none⟩, []⟩])
  .ret))))),
  [.tmp 4]⟩
theorem xf61_ok : compFunc Tryz.prog Tryz.f61 = some xf61 := by kernel_rfl
/-- (*threshing/base.Base).Delete -/
def xf62 : XFunc := ⟨(.seq (.region false [⟨⟨.mv (.const (.int .i64 (.ofNat 0))), some 4, none⟩, []⟩])
  (.seq (.seq (.region false [⟨⟨.mv (.slot 0), some 8, none⟩, []⟩,
    ⟨⟨.bin .eql 22 .ptr (.slot 8) (.const .nilp), some 9, none⟩, []⟩])
  (.cond (.slot 9)
   (.seq (.region false [⟨⟨.mv (.const (.int .i64 (.ofNat 1))), some 4, none⟩, []⟩])
   .ret)
   .skip))
  (.seq (.region false [⟨⟨.mv (.slot 0), some 11, none⟩, []⟩,
    ⟨⟨.nilCheck (.slot 11), some 12, none⟩, []⟩,
    ⟨⟨.faddr 1 (.slot 12), some 13, none⟩, []⟩,
    ⟨⟨.load false 1 (.slot 13), some 14, none⟩, []⟩,
    ⟨⟨.mv (.slot 1), some 15, none⟩, []⟩,
    ⟨⟨.lookup .i64 (.agg [(.int .i64 (.ofNat 0)), .nils, (.bool false)]) (.slot 14) (.slot 15) true, some 16, none⟩, []⟩,
    ⟨⟨.mv (.slot 16), some 10, none⟩, []⟩,
    ⟨⟨.extract (.slot 10) 0, some 17, none⟩, []⟩,
    ⟨⟨.extract (.slot 10) 1, some 18, none⟩, []⟩,
    ⟨⟨.alloc [(.int .i64 (.ofNat 0)), .nils, (.bool false)], some 5, none⟩, []⟩,
    ⟨⟨.store 3 (.slot 5) (.slot 17), none, none⟩, []⟩,
    ⟨⟨.mv (.slot 18), some 6, none⟩, []⟩])
  (.seq (.block 0 (.seq (.region false [⟨⟨.mv (.slot 6), some 20, none⟩, []⟩,
    ⟨⟨.un .not (.slot 20), some 21, none⟩, []⟩,
    ⟨⟨.mv (.slot 21), some 19, none⟩, []⟩])
  (.cond (.slot 19)
   (.seq (.region false [⟨⟨.mv (.const (.int .i64 (.ofNat 5))), some 4, none⟩, []⟩])
   .ret)
   (.seq (.region false [⟨⟨.faddr 2 (.slot 5), some 23, none⟩, []⟩,
     ⟨⟨.load false 1 (.slot 23), some 24, none⟩, []⟩,
     ⟨⟨.un .not (.slot 24), some 25, none⟩, []⟩,
     ⟨⟨.mv (.slot 25), some 22, none⟩, []⟩])
   (.cond (.slot 22)
    (.seq (.region false [⟨⟨.mv (.const (.int .i64 (.ofNat 7))), some 4, none⟩, []⟩])
    .ret)
    .skip)))))
  (.seq (.seq (.region false [⟨⟨.mv (.slot 0), some 26, none⟩, []⟩,
    ⟨⟨.load true 3 (.slot 5), some 27, none⟩, []⟩,
    ⟨⟨.call (.const (.func 74 [] [])) [(.slot 26), (.slot 27)], some 28, none⟩, []⟩,
    ⟨⟨.mv (.slot 28), some 7, none⟩, []⟩])
  (.seq (.region false [⟨⟨.mv (.slot 7), some 29, none⟩, []⟩,
    ⟨⟨.bin .neq 27 .num (.slot 29) (.const (.int .i64 (.ofNat 0))), some 30, none⟩, []⟩])
  (.cond (.slot 30)
   (.seq (.region false [⟨⟨.mv (.slot 7), some 31, none⟩, []⟩,
     ⟨⟨.mv (.slot 31), some 4, none⟩, []⟩])
   .ret)
   .skip)))
  (.seq (.region false [⟨⟨.mv (.slot 0), some 32, none⟩, []⟩,
    ⟨⟨.mv (.slot 1), some 33, none⟩, []⟩,
    ⟨⟨.build [(.int .u8 (.ofNat 0)), (.int .i64 (.ofNat 0)), (.int .i64 (.ofNat 0)), (.bool false), .nils, .nils] [(0, 1, (.const (.int .u8 (.ofNat 3)))), (1, 1, (.slot 33))], some 34, none⟩, []⟩,
    ⟨⟨.call (.const (.func 60 [] [])) [(.slot 32), (.slot 34)], some 35, none⟩, []⟩,
    ⟨⟨.mv (.slot 35), some 4, none⟩, []⟩])
  .ret)))))),
  [.tmp 4]⟩
theorem xf62_ok : compFunc Tryz.prog Tryz.f62 = some xf62 := by kernel_rfl
/-- (*threshing/probe.prober).two -/
def xf63 : XFunc := ⟨(.seq (.region false [⟨⟨.box (.slot 0), some 2, none⟩, []⟩,
    ⟨⟨.box (.slot 1), some 3, none⟩, []⟩,
    ⟨⟨.mv (.const (.bool false)), some 4, none⟩, []⟩])
  (.seq (.region true [⟨⟨.load false 1 (.slot 2), some 5, none⟩, []⟩,
    ⟨⟨.nilCheck (.slot 5), some 6, none⟩, []⟩,
    ⟨⟨.faddr 0 (.slot 6), some 7, none⟩, []⟩,
    ⟨⟨.load false 1 (.slot 7), some 8, none⟩, []⟩,
    ⟨⟨.load false 1 (.slot 3), some 9, none⟩, []⟩,
    ⟨⟨.iaddr 1 (.slot 9) (.const (.int .i64 (.ofNat 0))), some 10, none⟩, []⟩,
    ⟨⟨.load false 1 (.slot 10), some 11, none⟩, []⟩,
    ⟨⟨.mkfunc 77 [] [(.slot 2), (.slot 3)], some 13, none⟩, []⟩,
    ⟨⟨.call (.const (.func 76 [] [])) [(.slot 8), (.slot 11)], some 12, none⟩, []⟩,
    ⟨⟨.call (.const (.func 75 [] [])) [(.slot 12), (.slot 13)], some 14, none⟩, []⟩,
    ⟨⟨.mv (.slot 14), some 4, none⟩, []⟩])
  .ret)),
  [.tmp 4]⟩
theorem xf63_ok : compFunc Tryz.prog Tryz.f63 = some xf63 := by kernel_rfl
/-- slices.pdqsortOrdered[int64] -/
def xf64 : XFunc := ⟨(.seq (.region false [⟨⟨.mv (.const (.bool true)), some 8, none⟩, []⟩])
  (.seq (.region false [⟨⟨.mv (.const (.bool true)), some 9, none⟩, []⟩])
  (.block 0 (.loop (.block 1 (.seq (.region false [⟨⟨.mv (.slot 2), some 19, none⟩, []⟩,
     ⟨⟨.mv (.slot 1), some 20, none⟩, []⟩,
     ⟨⟨.bin .sub 3 .num (.slot 19) (.slot 20), some 21, none⟩, []⟩,
     ⟨⟨.mv (.slot 21), some 10, none⟩, []⟩])
   (.seq (.seq (.region false [⟨⟨.mv (.slot 10), some 22, none⟩, []⟩,
     ⟨⟨.bin .leq 3 .num (.slot 22) (.const (.int .i64 (.ofNat 12))), some 23, none⟩, []⟩])
   (.cond (.slot 23)
    (.seq (.region false [⟨⟨.mv (.slot 0), some 24, none⟩, []⟩,
      ⟨⟨.mv (.slot 1), some 25, none⟩, []⟩,
      ⟨⟨.mv (.slot 2), some 26, none⟩, []⟩,
      ⟨⟨.call (.const (.func 79 [] [])) [(.slot 24), (.slot 25), (.slot 26)], some 27, none⟩, []⟩])
    .ret)
    .skip))
   (.seq (.seq (.region false [⟨⟨.mv (.slot 3), some 28, none⟩, []⟩,
     ⟨⟨.bin .eql 3 .num (.slot 28) (.const (.int .i64 (.ofNat 0))), some 29, none⟩, []⟩])
   (.cond (.slot 29)
    (.seq (.region false [⟨⟨.mv (.slot 0), some 30, none⟩, []⟩,
      ⟨⟨.mv (.slot 1), some 31, none⟩, []⟩,
      ⟨⟨.mv (.slot 2), some 32, none⟩, []⟩,
      ⟨⟨.call (.const (.func 80 [] [])) [(.slot 30), (.slot 31), (.slot 32)], some 33, none⟩, []⟩])
    .ret)
    .skip))
   (.seq (.seq (.region false [⟨⟨.mv (.slot 8), some 34, none⟩, []⟩,
     ⟨⟨.un .not (.slot 34), some 35, none⟩, []⟩])
   (.cond (.slot 35)
    (.seq (.region false [⟨⟨.mv (.slot 0), some 36, none⟩, []⟩,
      ⟨⟨.mv (.slot 1), some 37, none⟩, []⟩,
      ⟨⟨.mv (.slot 2), some 38, none⟩, []⟩,
      ⟨⟨.call (.const (.func 81 [] [])) [(.slot 36), (.slot 37), (.slot 38)], some 39, none⟩, []⟩])
    (.region false [⟨⟨.mv (.slot 3), some 40, none⟩, []⟩,
      ⟨⟨.bin .sub 3 .num (.slot 40) (.const (.int .i64 (.ofNat 1))), some 41, none⟩, []⟩,
      ⟨⟨.mv (.slot 41), some 3, none⟩, []⟩]))
    .skip))
   (.seq (.region false [⟨⟨.mv (.slot 0), some 43, none⟩, []⟩,
     ⟨⟨.mv (.slot 1), some 44, none⟩, []⟩,
     ⟨⟨.mv (.slot 2), some 45, none⟩, []⟩,
     ⟨⟨.call (.const (.func 82 [] [])) [(.slot 43), (.slot 44), (.slot 45)], some 46, none⟩, []⟩,
     ⟨⟨.mv (.slot 46), some 42, none⟩, []⟩,
     ⟨⟨.extract (.slot 42) 0, some 47, none⟩, []⟩,
     ⟨⟨.extract (.slot 42) 1, some 48, none⟩, []⟩,
     ⟨⟨.mv (.slot 47), some 11, none⟩, []⟩,
     ⟨⟨.mv (.slot 48), some 12, none⟩, []⟩])
   (.seq (.seq (.region false [⟨⟨.mv (.slot 12), some 49, none⟩, []⟩,
     ⟨⟨.bin .eql 140 .num (.slot 49) (.const (.int .i64 (.ofNat 2))), some 50, none⟩, []⟩])
   (.cond (.slot 50)
    (.seq (.region false [⟨⟨.mv (.slot 0), some 51, none⟩, []⟩,
      ⟨⟨.mv (.slot 1), some 52, none⟩, []⟩,
      ⟨⟨.mv (.slot 2), some 53, none⟩, []⟩,
      ⟨⟨.call (.const (.func 83 [] [])) [(.slot 51), (.slot 52), (.slot 53)], some 54, none⟩, []⟩])
    (.seq (.region false [⟨⟨.mv (.slot 2), some 55, none⟩, []⟩,
      ⟨⟨.bin .sub 3 .num (.slot 55) (.const (.int .i64 (.ofNat 1))), some 56, none⟩, []⟩,
      ⟨⟨.mv (.slot 11), some 57, none⟩, []⟩,
      ⟨⟨.mv (.slot 1), some 58, none⟩, []⟩,
      ⟨⟨.bin .sub 3 .num (.slot 57) (.slot 58), some 59, none⟩, []⟩,
      ⟨⟨.bin .sub 3 .num (.slot 56) (.slot 59), some 60, none⟩, []⟩,
      ⟨⟨.mv (.slot 60), some 11, none⟩, []⟩])
    (.region false [⟨⟨.mv (.const (.int .i64 (.ofNat 1))), some 12, none⟩, []⟩])))
    .skip))
   (.seq (.seq (.region false [⟨⟨.mv (.slot 8), some 61, none⟩, []⟩,
     ⟨⟨.mv (.slot 61), some 62, none⟩, []⟩,
     ⟨⟨.mv (.slot 9), some 63, some (62, true)⟩, []⟩,
     ⟨⟨.pick (.slot 62) (.slot 63) (.const (.bool false)), some 64, none⟩, []⟩,
     ⟨⟨.mv (.slot 64), some 65, none⟩, []⟩,
     ⟨⟨.mv (.slot 12), some 66, some (65, true)⟩, []⟩,
     ⟨⟨.bin .eql 140 .num (.slot 66) (.const (.int .i64 (.ofNat 1))), some 67, some (65, true)⟩, []⟩,
     ⟨⟨.pick (.slot 65) (.slot 67) (.const (.bool false)), some 68, none⟩, []⟩])
   (.cond (.slot 68)
    (.seq (.region false [⟨⟨.mv (.slot 0), some 69, none⟩, []⟩,
      ⟨⟨.mv (.slot 1), some 70, none⟩, []⟩,
      ⟨⟨.mv (.slot 2), some 71, none⟩, []⟩,
      ⟨⟨.call (.const (.func 84 [] [])) [(.slot 69), (.slot 70), (.slot 71)], some 72, none⟩, []⟩])
    (.cond (.slot 72)
     .ret
     .skip))
    .skip))
   (.seq (.seq (.region true [⟨⟨.mv (.slot 1), some 73, none⟩, []⟩,
     ⟨⟨.bin .gtr 3 .num (.slot 73) (.const (.int .i64 (.ofNat 0))), some 74, none⟩, []⟩,
     ⟨⟨.mv (.slot 74), some 75, none⟩, []⟩,
     ⟨⟨.mv (.slot 0), some 76, some (75, true)⟩, []⟩,
     ⟨⟨.mv (.slot 1), some 77, some (75, true)⟩, []⟩,
     ⟨⟨.bin .sub 3 .num (.slot 77) (.const (.int .i64 (.ofNat 1))), some 78, some (75, true)⟩, []⟩,
     ⟨⟨.iaddr 1 (.slot 76) (.slot 78), some 79, some (75, true)⟩, []⟩,
     ⟨⟨.load false 1 (.slot 79), some 80, some (75, true)⟩, []⟩,
     ⟨⟨.mv (.slot 0), some 81, some (75, true)⟩, []⟩,
     ⟨⟨.mv (.slot 11), some 82, some (75, true)⟩, []⟩,
     ⟨⟨.iaddr 1 (.slot 81) (.slot 82), some 83, some (75, true)⟩, []⟩,
     ⟨⟨.load false 1 (.slot 83), some 84, some (75, true)⟩, []⟩,
     ⟨⟨.call (.const (.func 85 [] [])) [(.slot 80), (.slot 84)], some 85, some (75, true)⟩, []⟩,
     ⟨⟨.un .not (.slot 85), some 86, some (75, true)⟩, []⟩,
     ⟨⟨.pick (.slot 75) (.slot 86) (.const (.bool false)), some 87, none⟩, []⟩])
   (.cond (.slot 87)
    (.seq (.region false [⟨⟨.mv (.slot 0), some 88, none⟩, []⟩,
      ⟨⟨.mv (.slot 1), some 89, none⟩, []⟩,
      ⟨⟨.mv (.slot 2), some 90, none⟩, []⟩,
      ⟨⟨.mv (.slot 11), some 91, none⟩, []⟩,
      ⟨⟨.call (.const (.func 86 [] [])) [(.slot 88), (.slot 89), (.slot 90), (.slot 91)], some 92, none⟩, []⟩,
      ⟨⟨.mv (.slot 92), some 13, none⟩, []⟩])
    (.seq (.region false [⟨⟨.mv (.slot 13), some 93, none⟩, []⟩,
      ⟨⟨.mv (.slot 93), some 1, none⟩, []⟩])
    (.exit 1)))
    .skip))
   (.seq (.region false [⟨⟨.mv (.slot 0), some 95, none⟩, []⟩,
     ⟨⟨.mv (.slot 1), some 96, none⟩, []⟩,
     ⟨⟨.mv (.slot 2), some 97, none⟩, []⟩,
     ⟨⟨.mv (.slot 11), some 98, none⟩, []⟩,
     ⟨⟨.call (.const (.func 87 [] [])) [(.slot 95), (.slot 96), (.slot 97), (.slot 98)], some 99, none⟩, []⟩,
     ⟨⟨.mv (.slot 99), some 94, none⟩, []⟩,
     ⟨⟨.extract (.slot 94) 0, some 100, none⟩, []⟩,
     ⟨⟨.extract (.slot 94) 1, some 101, none⟩, []⟩,
     ⟨⟨.mv (.slot 100), some 14, none⟩, []⟩,
     ⟨⟨.mv (.slot 101), some 15, none⟩, []⟩])
   (.seq (.region false [⟨⟨.mv (.slot 15), some 102, none⟩, []⟩,
     ⟨⟨.mv (.slot 102), some 9, none⟩, []⟩])
   (.seq (.region false [⟨⟨.mv (.slot 14), some 103, none⟩, []⟩,
     ⟨⟨.mv (.slot 1), some 104, none⟩, []⟩,
     ⟨⟨.bin .sub 3 .num (.slot 103) (.slot 104), some 105, none⟩, []⟩,
     ⟨⟨.mv (.slot 2), some 106, none⟩, []⟩,
     ⟨⟨.mv (.slot 14), some 107, none⟩, []⟩,
     ⟨⟨.bin .sub 3 .num (.slot 106) (.slot 107), some 108, none⟩, []⟩,
     ⟨⟨.mv (.slot 105), some 16, none⟩, []⟩,
     ⟨⟨.mv (.slot 108), some 17, none⟩, []⟩])
   (.seq (.region false [⟨⟨.mv (.slot 10), some 109, none⟩, []⟩,
     ⟨⟨.bin .quo 3 .num (.slot 109) (.const (.int .i64 (.ofNat 8))), some 110, none⟩, []⟩,
     ⟨⟨.mv (.slot 110), some 18, none⟩, []⟩])
   (.seq (.region false [⟨⟨.mv (.slot 16), some 111, none⟩, []⟩,
     ⟨⟨.mv (.slot 17), some 112, none⟩, []⟩,
     ⟨⟨.bin .lss 3 .num (.slot 111) (.slot 112), some 113, none⟩, []⟩])
   (.cond (.slot 113)
    (.seq (.region false [⟨⟨.mv (.slot 16), some 114, none⟩, []⟩,
      ⟨⟨.mv (.slot 18), some 115, none⟩, []⟩,
      ⟨⟨.bin .geq 3 .num (.slot 114) (.slot 115), some 116, none⟩, []⟩,
      ⟨⟨.mv (.slot 116), some 8, none⟩, []⟩])
    (.seq (.region false [⟨⟨.mv (.slot 0), some 117, none⟩, []⟩,
      ⟨⟨.mv (.slot 1), some 118, none⟩, []⟩,
      ⟨⟨.mv (.slot 14), some 119, none⟩, []⟩,
      ⟨⟨.mv (.slot 3), some 120, none⟩, []⟩,
      ⟨⟨.call (.const (.func 64 [] [])) [(.slot 117), (.slot 118), (.slot 119), (.slot 120)], some 121, none⟩, []⟩])
    (.region false [⟨⟨.mv (.slot 14), some 122, none⟩, []⟩,
      ⟨⟨.bin .add 3 .num (.slot 122) (.const (.int .i64 (.ofNat 1))), some 123, none⟩, []⟩,
      ⟨⟨.mv (.slot 123), some 1, none⟩, []⟩])))
    (.seq (.region false [⟨⟨.mv (.slot 17), some 124, none⟩, []⟩,
      ⟨⟨.mv (.slot 18), some 125, none⟩, []⟩,
      ⟨⟨.bin .geq 3 .num (.slot 124) (.slot 125), some 126, none⟩, []⟩,
      ⟨⟨.mv (.slot 126), some 8, none⟩, []⟩])
    (.seq (.region false [⟨⟨.mv (.slot 0), some 127, none⟩, []⟩,
      ⟨⟨.mv (.slot 14), some 128, none⟩, []⟩,
      ⟨⟨.bin .add 3 .num (.slot 128) (.const (.int .i64 (.ofNat 1))), some 129, none⟩, []⟩,
      ⟨⟨.mv (.slot 2), some 130, none⟩, []⟩,
      ⟨⟨.mv (.slot 3), some 131, none⟩, []⟩,
      ⟨⟨.call (.const (.func 64 [] [])) [(.slot 127), (.slot 129), (.slot 130), (.slot 131)], some 132, none⟩, []⟩])
    (.region false [⟨⟨.mv (.slot 14), some 133, none⟩, []⟩,
      ⟨⟨.mv (.slot 133), some 2, none⟩, []⟩])))))))))))))))))))))),
  []⟩
theorem xf64_ok : compFunc Tryz.prog Tryz.f64 = some xf64 := by kernel_rfl
/-- math/bits.Len -/
def xf65 : XFunc := ⟨(.seq (.region false [⟨⟨.mv (.const (.int .i64 (.ofNat 0))), some 2, none⟩, []⟩])
  (.seq (.cond (.const (.bool false))
   (.seq (.region false [⟨⟨.mv (.slot 0), some 3, none⟩, []⟩,
     ⟨⟨.conv .u32 (.slot 3), some 4, none⟩, []⟩,
     ⟨⟨.call (.const (.func 88 [] [])) [(.slot 4)], some 5, none⟩, []⟩,
     ⟨⟨.mv (.slot 5), some 2, none⟩, []⟩])
   .ret)
   .skip)
  (.seq (.region false [⟨⟨.mv (.slot 0), some 6, none⟩, []⟩,
    ⟨⟨.call (.const (.func 89 [] [])) [(.slot 6)], some 7, none⟩, []⟩,
    ⟨⟨.mv (.slot 7), some 2, none⟩, []⟩])
  .ret))),
  [.tmp 2]⟩
theorem xf65_ok : compFunc Tryz.prog Tryz.f65 = some xf65 := by kernel_rfl
/-- slices.pdqsortCmpFunc[threshing/api.Lit] -/
def xf66 : XFunc := ⟨(.seq (.region false [⟨⟨.mv (.const (.bool true)), some 10, none⟩, []⟩])
  (.seq (.region false [⟨⟨.mv (.const (.bool true)), some 11, none⟩, []⟩])
  (.block 0 (.loop (.block 1 (.seq (.region false [⟨⟨.mv (.slot 2), some 21, none⟩, []⟩,
     ⟨⟨.mv (.slot 1), some 22, none⟩, []⟩,
     ⟨⟨.bin .sub 3 .num (.slot 21) (.slot 22), some 23, none⟩, []⟩,
     ⟨⟨.mv (.slot 23), some 12, none⟩, []⟩])
   (.seq (.seq (.region false [⟨⟨.mv (.slot 12), some 24, none⟩, []⟩,
     ⟨⟨.bin .leq 3 .num (.slot 24) (.const (.int .i64 (.ofNat 12))), some 25, none⟩, []⟩])
   (.cond (.slot 25)
    (.seq (.region false [⟨⟨.mv (.slot 0), some 26, none⟩, []⟩,
      ⟨⟨.mv (.slot 1), some 27, none⟩, []⟩,
      ⟨⟨.mv (.slot 2), some 28, none⟩, []⟩,
      ⟨⟨.mv (.slot 4), some 29, none⟩, []⟩,
      ⟨⟨.call (.const (.func 90 [] [])) [(.slot 26), (.slot 27), (.slot 28), (.slot 29)], some 30, none⟩, []⟩])
    .ret)
    .skip))
   (.seq (.seq (.region false [⟨⟨.mv (.slot 3), some 31, none⟩, []⟩,
     ⟨⟨.bin .eql 3 .num (.slot 31) (.const (.int .i64 (.ofNat 0))), some 32, none⟩, []⟩])
   (.cond (.slot 32)
    (.seq (.region false [⟨⟨.mv (.slot 0), some 33, none⟩, []⟩,
      ⟨⟨.mv (.slot 1), some 34, none⟩, []⟩,
      ⟨⟨.mv (.slot 2), some 35, none⟩, []⟩,
      ⟨⟨.mv (.slot 4), some 36, none⟩, []⟩,
      ⟨⟨.call (.const (.func 91 [] [])) [(.slot 33), (.slot 34), (.slot 35), (.slot 36)], some 37, none⟩, []⟩])
    .ret)
    .skip))
   (.seq (.seq (.region false [⟨⟨.mv (.slot 10), some 38, none⟩, []⟩,
     ⟨⟨.un .not (.slot 38), some 39, none⟩, []⟩])
   (.cond (.slot 39)
    (.seq (.region false [⟨⟨.mv (.slot 0), some 40, none⟩, []⟩,
      ⟨⟨.mv (.slot 1), some 41, none⟩, []⟩,
      ⟨⟨.mv (.slot 2), some 42, none⟩, []⟩,
      ⟨⟨.mv (.slot 4), some 43, none⟩, []⟩,
      ⟨⟨.call (.const (.func 92 [] [])) [(.slot 40), (.slot 41), (.slot 42), (.slot 43)], some 44, none⟩, []⟩])
    (.region false [⟨⟨.mv (.slot 3), some 45, none⟩, []⟩,
      ⟨⟨.bin .sub 3 .num (.slot 45) (.const (.int .i64 (.ofNat 1))), some 46, none⟩, []⟩,
      ⟨⟨.mv (.slot 46), some 3, none⟩, []⟩]))
    .skip))
   (.seq (.region false [⟨⟨.mv (.slot 0), some 48, none⟩, []⟩,
     ⟨⟨.mv (.slot 1), some 49, none⟩, []⟩,
     ⟨⟨.mv (.slot 2), some 50, none⟩, []⟩,
     ⟨⟨.mv (.slot 4), some 51, none⟩, []⟩,
     ⟨⟨.call (.const (.func 93 [] [])) [(.slot 48), (.slot 49), (.slot 50), (.slot 51)], some 52, none⟩, []⟩,
     ⟨⟨.mv (.slot 52), some 47, none⟩, []⟩,
     ⟨⟨.extract (.slot 47) 0, some 53, none⟩, []⟩,
     ⟨⟨.extract (.slot 47) 1, some 54, none⟩, []⟩,
     ⟨⟨.mv (.slot 53), some 13, none⟩, []⟩,
     ⟨⟨.mv (.slot 54), some 14, none⟩, []⟩])
   (.seq (.seq (.region false [⟨⟨.mv (.slot 14), some 55, none⟩, []⟩,
     ⟨⟨.bin .eql 140 .num (.slot 55) (.const (.int .i64 (.ofNat 2))), some 56, none⟩, []⟩])
   (.cond (.slot 56)
    (.seq (.region false [⟨⟨.mv (.slot 0), some 57, none⟩, []⟩,
      ⟨⟨.mv (.slot 1), some 58, none⟩, []⟩,
      ⟨⟨.mv (.slot 2), some 59, none⟩, []⟩,
      ⟨⟨.mv (.slot 4), some 60, none⟩, []⟩,
      ⟨⟨.call (.const (.func 94 [] [])) [(.slot 57), (.slot 58), (.slot 59), (.slot 60)], some 61, none⟩, []⟩])
    (.seq (.region false [⟨⟨.mv (.slot 2), some 62, none⟩, []⟩,
      ⟨⟨.bin .sub 3 .num (.slot 62) (.const (.int .i64 (.ofNat 1))), some 63, none⟩, []⟩,
      ⟨⟨.mv (.slot 13), some 64, none⟩, []⟩,
      ⟨⟨.mv (.slot 1), some 65, none⟩, []⟩,
      ⟨⟨.bin .sub 3 .num (.slot 64) (.slot 65), some 66, none⟩, []⟩,
      ⟨⟨.bin .sub 3 .num (.slot 63) (.slot 66), some 67, none⟩, []⟩,
      ⟨⟨.mv (.slot 67), some 13, none⟩, []⟩])
    (.region false [⟨⟨.mv (.const (.int .i64 (.ofNat 1))), some 14, none⟩, []⟩])))
    .skip))
   (.seq (.seq (.region false [⟨⟨.mv (.slot 10), some 68, none⟩, []⟩,
     ⟨⟨.mv (.slot 68), some 69, none⟩, []⟩,
     ⟨⟨.mv (.slot 11), some 70, some (69, true)⟩, []⟩,
     ⟨⟨.pick (.slot 69) (.slot 70) (.const (.bool false)), some 71, none⟩, []⟩,
     ⟨⟨.mv (.slot 71), some 72, none⟩, []⟩,
     ⟨⟨.mv (.slot 14), some 73, some (72, true)⟩, []⟩,
     ⟨⟨.bin .eql 140 .num (.slot 73) (.const (.int .i64 (.ofNat 1))), some 74, some (72, true)⟩, []⟩,
     ⟨⟨.pick (.slot 72) (.slot 74) (.const (.bool false)), some 75, none⟩, []⟩])
   (.cond (.slot 75)
    (.seq (.region false [⟨⟨.mv (.slot 0), some 76, none⟩, []⟩,
      ⟨⟨.mv (.slot 1), some 77, none⟩, []⟩,
      ⟨⟨.mv (.slot 2), some 78, none⟩, []⟩,
      ⟨⟨.mv (.slot 4), some 79, none⟩, []⟩,
      ⟨⟨.call (.const (.func 95 [] [])) [(.slot 76), (.slot 77), (.slot 78), (.slot 79)], some 80, none⟩, []⟩])
    (.cond (.slot 80)
     .ret
     .skip))
    .skip))
   (.seq (.seq (.region true [⟨⟨.mv (.slot 1), some 81, none⟩, []⟩,
     ⟨⟨.bin .gtr 3 .num (.slot 81) (.const (.int .i64 (.ofNat 0))), some 82, none⟩, []⟩,
     ⟨⟨.mv (.slot 82), some 83, none⟩, []⟩,
     ⟨⟨.mv (.slot 4), some 84, some (83, true)⟩, []⟩,
     ⟨⟨.mv (.slot 0), some 85, some (83, true)⟩, []⟩,
     ⟨⟨.mv (.slot 1), some 86, some (83, true)⟩, []⟩,
     ⟨⟨.bin .sub 3 .num (.slot 86) (.const (.int .i64 (.ofNat 1))), some 87, some (83, true)⟩, []⟩,
     ⟨⟨.iaddr 1 (.slot 85) (.slot 87), some 88, some (83, true)⟩, []⟩,
     ⟨⟨.load false 1 (.slot 88), some 89, some (83, true)⟩, []⟩,
     ⟨⟨.mv (.slot 0), some 90, some (83, true)⟩, []⟩,
     ⟨⟨.mv (.slot 13), some 91, some (83, true)⟩, []⟩,
     ⟨⟨.iaddr 1 (.slot 90) (.slot 91), some 92, some (83, true)⟩, []⟩,
     ⟨⟨.load false 1 (.slot 92), some 93, some (83, true)⟩, []⟩,
     ⟨⟨.call (.slot 84) [(.slot 89), (.slot 93)], some 94, some (83, true)⟩, []⟩,
     ⟨⟨.bin .lss 3 .num (.slot 94) (.const (.int .i64 (.ofNat 0))), some 95, some (83, true)⟩, []⟩,
     ⟨⟨.un .not (.slot 95), some 96, some (83, true)⟩, []⟩,
     ⟨⟨.pick (.slot 83) (.slot 96) (.const (.bool false)), some 97, none⟩, []⟩])
   (.cond (.slot 97)
    (.seq (.region false [⟨⟨.mv (.slot 0), some 98, none⟩, []⟩,
      ⟨⟨.mv (.slot 1), some 99, none⟩, []⟩,
      ⟨⟨.mv (.slot 2), some 100, none⟩, []⟩,
      ⟨⟨.mv (.slot 13), some 101, none⟩, []⟩,
      ⟨⟨.mv (.slot 4), some 102, none⟩, []⟩,
      ⟨⟨.call (.const (.func 96 [] [])) [(.slot 98), (.slot 99), (.slot 100), (.slot 101), (.slot 102)], some 103, none⟩, []⟩,
      ⟨⟨.mv (.slot 103), some 15, none⟩, []⟩])
    (.seq (.region false [⟨⟨.mv (.slot 15), some 104, none⟩, []⟩,
      ⟨⟨.mv (.slot 104), some 1, none⟩, []⟩])
    (.exit 1)))
    .skip))
   (.seq (.region false [⟨⟨.mv (.slot 0), some 106, none⟩, []⟩,
     ⟨⟨.mv (.slot 1), some 107, none⟩, []⟩,
     ⟨⟨.mv (.slot 2), some 108, none⟩, []⟩,
     ⟨⟨.mv (.slot 13), some 109, none⟩, []⟩,
     ⟨⟨.mv (.slot 4), some 110, none⟩, []⟩,
     ⟨⟨.call (.const (.func 97 [] [])) [(.slot 106), (.slot 107), (.slot 108), (.slot 109), (.slot 110)], some 111, none⟩, []⟩,
     ⟨⟨.mv (.slot 111), some 105, none⟩, []⟩,
     ⟨⟨.extract (.slot 105) 0, some 112, none⟩, []⟩,
     ⟨⟨.extract (.slot 105) 1, some 113, none⟩, []⟩,
     ⟨⟨.mv (.slot 112), some 16, none⟩, []⟩,
     ⟨⟨.mv (.slot 113), some 17, none⟩, []⟩])
   (.seq (.region false [⟨⟨.mv (.slot 17), some 114, none⟩, []⟩,
     ⟨⟨.mv (.slot 114), some 11, none⟩, []⟩])
   (.seq (.region false [⟨⟨.mv (.slot 16), some 115, none⟩, []⟩,
     ⟨⟨.mv (.slot 1), some 116, none⟩, []⟩,
     ⟨⟨.bin .sub 3 .num (.slot 115) (.slot 116), some 117, none⟩, []⟩,
     ⟨⟨.mv (.slot 2), some 118, none⟩, []⟩,
     ⟨⟨.mv (.slot 16), some 119, none⟩, []⟩,
     ⟨⟨.bin .sub 3 .num (.slot 118) (.slot 119), some 120, none⟩, []⟩,
     ⟨⟨.mv (.slot 117), some 18, none⟩, []⟩,
     ⟨⟨.mv (.slot 120), some 19, none⟩, []⟩])
   (.seq (.region false [⟨⟨.mv (.slot 12), some 121, none⟩, []⟩,
     ⟨⟨.bin .quo 3 .num (.slot 121) (.const (.int .i64 (.ofNat 8))), some 122, none⟩, []⟩,
     ⟨⟨.mv (.slot 122), some 20, none⟩, []⟩])
   (.seq (.region false [⟨⟨.mv (.slot 18), some 123, none⟩, []⟩,
     ⟨⟨.mv (.slot 19), some 124, none⟩, []⟩,
     ⟨⟨.bin .lss 3 .num (.slot 123) (.slot 124), some 125, none⟩, []⟩])
   (.cond (.slot 125)
    (.seq (.region false [⟨⟨.mv (.slot 18), some 126, none⟩, []⟩,
      ⟨⟨.mv (.slot 20), some 127, none⟩, []⟩,
      ⟨⟨.bin .geq 3 .num (.slot 126) (.slot 127), some 128, none⟩, []⟩,
      ⟨⟨.mv (.slot 128), some 10, none⟩, []⟩])
    (.seq (.region false [⟨⟨.mv (.slot 0), some 129, none⟩, []⟩,
      ⟨⟨.mv (.slot 1), some 130, none⟩, []⟩,
      ⟨⟨.mv (.slot 16), some 131, none⟩, []⟩,
      ⟨⟨.mv (.slot 3), some 132, none⟩, []⟩,
      ⟨⟨.mv (.slot 4), some 133, none⟩, []⟩,
      ⟨⟨.call (.const (.func 66 [] [])) [(.slot 129), (.slot 130), (.slot 131), (.slot 132), (.slot 133)], some 134, none⟩, []⟩])
    (.region false [⟨⟨.mv (.slot 16), some 135, none⟩, []⟩,
      ⟨⟨.bin .add 3 .num (.slot 135) (.const (.int .i64 (.ofNat 1))), some 136, none⟩, []⟩,
      ⟨⟨.mv (.slot 136), some 1, none⟩, []⟩])))
    (.seq (.region false [⟨⟨.mv (.slot 19), some 137, none⟩, []⟩,
      ⟨⟨.mv (.slot 20), some 138, none⟩, []⟩,
      ⟨⟨.bin .geq 3 .num (.slot 137) (.slot 138), some 139, none⟩, []⟩,
      ⟨⟨.mv (.slot 139), some 10, none⟩, []⟩])
    (.seq (.region false [⟨⟨.mv (.slot 0), some 140, none⟩, []⟩,
      ⟨⟨.mv (.slot 16), some 141, none⟩, []⟩,
      ⟨⟨.bin .add 3 .num (.slot 141) (.const (.int .i64 (.ofNat 1))), some 142, none⟩, []⟩,
      ⟨⟨.mv (.slot 2), some 143, none⟩, []⟩,
      ⟨⟨.mv (.slot 3), some 144, none⟩, []⟩,
      ⟨⟨.mv (.slot 4), some 145, none⟩, []⟩,
      ⟨⟨.call (.const (.func 66 [] [])) [(.slot 140), (.slot 142), (.slot 143), (.slot 144), (.slot 145)], some 146, none⟩, []⟩])
    (.region false [⟨⟨.mv (.slot 16), some 147, none⟩, []⟩,
      ⟨⟨.mv (.slot 147), some 2, none⟩, []⟩])))))))))))))))))))))),
  []⟩
theorem xf66_ok : compFunc Tryz.prog Tryz.f66 = some xf66 := by kernel_rfl
/-- cmp.Or[int] -/
def xf67 : XFunc := ⟨(.seq (.region false [⟨⟨.mv (.const (.int .i64 (.ofNat 0))), some 2, none⟩, []⟩])
  (.seq (.region false [⟨⟨.mv (.const (.int .i64 (.ofNat 0))), some 3, none⟩, []⟩])
  (.seq (.seq (.region false [⟨⟨.mv (.slot 0), some 6, none⟩, []⟩,
    ⟨⟨.len .slice (.slot 6), some 7, none⟩, []⟩,
    ⟨⟨.mv (.const (.int .i64 (.ofNat 0))), some 8, none⟩, []⟩])
  (.block 0 (.loop (.seq (.region false [⟨⟨.bin .lss 3 .num (.slot 8) (.slot 7), some 9, none⟩, []⟩])
   (.seq (.cond (.slot 9)
    .skip
    (.exit 0))
   (.seq (.block 1 (.seq (.region false [⟨⟨.iaddr 1 (.slot 6) (.slot 8), some 10, none⟩, []⟩,
     ⟨⟨.load false 1 (.slot 10), some 11, none⟩, []⟩,
     ⟨⟨.mv (.slot 11), some 5, none⟩, []⟩])
   (.seq (.region false [⟨⟨.mv (.slot 5), some 12, none⟩, []⟩,
     ⟨⟨.mv (.slot 3), some 13, none⟩, []⟩,
     ⟨⟨.bin .neq 3 .num (.slot 12) (.slot 13), some 14, none⟩, []⟩])
   (.cond (.slot 14)
    (.seq (.region false [⟨⟨.mv (.slot 5), some 15, none⟩, []⟩,
      ⟨⟨.mv (.slot 15), some 2, none⟩, []⟩])
    .ret)
    .skip))))
   (.region false [⟨⟨.bin .add 3 .num (.slot 8) (.const (.int .i64 (.ofNat 1))), some 16, none⟩, []⟩,
     ⟨⟨.mv (.slot 16), some 8, none⟩, []⟩])))))))
  (.seq (.region false [⟨⟨.mv (.slot 3), some 17, none⟩, []⟩,
    ⟨⟨.mv (.slot 17), some 2, none⟩, []⟩])
  .ret)))),
  [.tmp 2]⟩
theorem xf67_ok : compFunc Tryz.prog Tryz.f67 = some xf67 := by kernel_rfl
/-- cmp.Compare[int] -/
def xf68 : XFunc := ⟨(.seq (.region false [⟨⟨.mv (.const (.int .i64 (.ofNat 0))), some 4, none⟩, []⟩])
  (.seq (.region false [⟨⟨.mv (.slot 0), some 7, none⟩, []⟩,
    ⟨⟨.call (.const (.func 98 [] [])) [(.slot 7)], some 8, none⟩, []⟩,
    ⟨⟨.mv (.slot 8), some 5, none⟩, []⟩])
  (.seq (.region false [⟨⟨.mv (.slot 1), some 9, none⟩, []⟩,
    ⟨⟨.call (.const (.func 98 [] [])) [(.slot 9)], some 10, none⟩, []⟩,
    ⟨⟨.mv (.slot 10), some 6, none⟩, []⟩])
  (.seq (.seq (.region false [⟨⟨.mv (.slot 5), some 11, none⟩, []⟩])
  (.cond (.slot 11)
   (.seq (.seq (.region false [⟨⟨.mv (.slot 6), some 12, none⟩, []⟩])
   (.cond (.slot 12)
    (.seq (.region false [⟨⟨.mv (.const (.int .i64 (.ofNat 0))), some 4, none⟩, []⟩])
    .ret)
    .skip))
   (.seq (.region false [⟨⟨.mv (.const (.int .i64 (.negSucc 0))), some 4, none⟩, []⟩])
   .ret))
   .skip))
  (.seq (.seq (.region false [⟨⟨.mv (.slot 6), some 13, none⟩, []⟩])
  (.cond (.slot 13)
   (.seq (.region false [⟨⟨.mv (.const (.int .i64 (.ofNat 1))), some 4, none⟩, []⟩])
   .ret)
   .skip))
  (.seq (.seq (.region false [⟨⟨.mv (.slot 0), some 14, none⟩, []⟩,
    ⟨⟨.mv (.slot 1), some 15, none⟩, []⟩,
    ⟨⟨.bin .lss 3 .num (.slot 14) (.slot 15), some 16, none⟩, []⟩])
  (.cond (.slot 16)
   (.seq (.region false [⟨⟨.mv (.const (.int .i64 (.negSucc 0))), some 4, none⟩, []⟩])
   .ret)
   .skip))
  (.seq (.seq (.region false [⟨⟨.mv (.slot 0), some 17, none⟩, []⟩,
    ⟨⟨.mv (.slot 1), some 18, none⟩, []⟩,
    ⟨⟨.bin .gtr 3 .num (.slot 17) (.slot 18), some 19, none⟩, []⟩])
  (.cond (.slot 19)
   (.seq (.region false [⟨⟨.mv (.const (.int .i64 (.ofNat 1))), some 4, none⟩, []⟩])
   .ret)
   .skip))
  (.seq (.region false [⟨⟨.mv (.const (.int .i64 (.ofNat 0))), some 4, none⟩, []⟩])
  .ret)))))))),
  [.tmp 4]⟩
theorem xf68_ok : compFunc Tryz.prog Tryz.f68 = some xf68 := by kernel_rfl
/-- cmp.Compare[threshing/api.Lit] -/
def xf69 : XFunc := ⟨(.seq (.region false [⟨⟨.mv (.const (.int .i64 (.ofNat 0))), some 4, none⟩, []⟩])
  (.seq (.region false [⟨⟨.mv (.slot 0), some 7, none⟩, []⟩,
    ⟨⟨.call (.const (.func 99 [] [])) [(.slot 7)], some 8, none⟩, []⟩,
    ⟨⟨.mv (.slot 8), some 5, none⟩, []⟩])
  (.seq (.region false [⟨⟨.mv (.slot 1), some 9, none⟩, []⟩,
    ⟨⟨.call (.const (.func 99 [] [])) [(.slot 9)], some 10, none⟩, []⟩,
    ⟨⟨.mv (.slot 10), some 6, none⟩, []⟩])
  (.seq (.seq (.region false [⟨⟨.mv (.slot 5), some 11, none⟩, []⟩])
  (.cond (.slot 11)
   (.seq (.seq (.region false [⟨⟨.mv (.slot 6), some 12, none⟩, []⟩])
   (.cond (.slot 12)
    (.seq (.region false [⟨⟨.mv (.const (.int .i64 (.ofNat 0))), some 4, none⟩, []⟩])
    .ret)
    .skip))
   (.seq (.region false [⟨⟨.mv (.const (.int .i64 (.negSucc 0))), some 4, none⟩, []⟩])
   .ret))
   .skip))
  (.seq (.seq (.region false [⟨⟨.mv (.slot 6), some 13, none⟩, []⟩])
  (.cond (.slot 13)
   (.seq (.region false [⟨⟨.mv (.const (.int .i64 (.ofNat 1))), some 4, none⟩, []⟩])
   .ret)
   .skip))
  (.seq (.seq (.region false [⟨⟨.mv (.slot 0), some 14, none⟩, []⟩,
    ⟨⟨.mv (.slot 1), some 15, none⟩, []⟩,
    ⟨⟨.bin .lss 24 .num (.slot 14) (.slot 15), some 16, none⟩, []⟩])
  (.cond (.slot 16)
   (.seq (.region false [⟨⟨.mv (.const (.int .i64 (.negSucc 0))), some 4, none⟩, []⟩])
   .ret)
   .skip))
  (.seq (.seq (.region false [⟨⟨.mv (.slot 0), some 17, none⟩, []⟩,
    ⟨⟨.mv (.slot 1), some 18, none⟩, []⟩,
    ⟨⟨.bin .gtr 24 .num (.slot 17) (.slot 18), some 19, none⟩, []⟩])
  (.cond (.slot 19)
   (.seq (.region false [⟨⟨.mv (.const (.int .i64 (.ofNat 1))), some 4, none⟩, []⟩])
   .ret)
   .skip))
  (.seq (.region false [⟨⟨.mv (.const (.int .i64 (.ofNat 0))), some 4, none⟩, []⟩])
  .ret)))))))),
  [.tmp 4]⟩
theorem xf69_ok : compFunc Tryz.prog Tryz.f69 = some xf69 := by kernel_rfl
/-- container/heap.up -/
def xf70 : XFunc := ⟨(.block 0 (.loop (.block 1 (.seq (.region false [⟨⟨.mv (.slot 1), some 5, none⟩, []⟩,
     ⟨⟨.bin .sub 3 .num (.slot 5) (.const (.int .i64 (.ofNat 1))), some 6, none⟩, []⟩,
     ⟨⟨.bin .quo 3 .num (.slot 6) (.const (.int .i64 (.ofNat 2))), some 7, none⟩, []⟩,
     ⟨⟨.mv (.slot 7), some 4, none⟩, []⟩])
   (.seq (.seq (.region false [⟨⟨.mv (.slot 4), some 8, none⟩, []⟩,
     ⟨⟨.mv (.slot 1), some 9, none⟩, []⟩,
     ⟨⟨.bin .eql 3 .num (.slot 8) (.slot 9), some 10, none⟩, []⟩,
     ⟨⟨.mv (.slot 10), some 11, none⟩, []⟩,
     ⟨⟨.mv (.slot 0), some 12, some (11, false)⟩, []⟩,
     ⟨⟨.mv (.slot 1), some 13, some (11, false)⟩, []⟩,
     ⟨⟨.mv (.slot 4), some 14, some (11, false)⟩, []⟩,
     ⟨⟨.invoke (.slot 12) [(84, 132, none), (88, 132, some (false, 1))] [(.slot 13), (.slot 14)], some 15, some (11, false)⟩, []⟩,
     ⟨⟨.un .not (.slot 15), some 16, some (11, false)⟩, []⟩,
     ⟨⟨.pick (.slot 11) (.const (.bool true)) (.slot 16), some 17, none⟩, []⟩])
   (.cond (.slot 17)
    (.exit 0)
    .skip))
   (.seq (.region false [⟨⟨.mv (.slot 0), some 18, none⟩, []⟩,
     ⟨⟨.mv (.slot 4), some 19, none⟩, []⟩,
     ⟨⟨.mv (.slot 1), some 20, none⟩, []⟩,
     ⟨⟨.invoke (.slot 18) [(84, 133, none), (88, 133, some (false, 1))] [(.slot 19), (.slot 20)], some 21, none⟩, []⟩])
   (.region false [⟨⟨.mv (.slot 4), some 22, none⟩, []⟩,
     ⟨⟨.mv (.slot 22), some 1, none⟩, []⟩]))))))),
  []⟩
theorem xf70_ok : compFunc Tryz.prog Tryz.f70 = some xf70 := by kernel_rfl
/-- (*threshing/base.Base).right$1 -/
def xf71 : XFunc := ⟨(.seq (.region false [⟨⟨.mv (.const (.bool false)), some 3, none⟩, []⟩])
  (.seq (.region true [⟨⟨.mv (.slot 0), some 4, none⟩, []⟩,
    ⟨⟨.bin .eql 24 .num (.slot 4) (.const (.int .i32 (.ofNat 0))), some 5, none⟩, []⟩,
    ⟨⟨.mv (.slot 5), some 6, none⟩, []⟩,
    ⟨⟨.mv (.slot 0), some 7, some (6, false)⟩, []⟩,
    ⟨⟨.load false 1 (.slot 1), some 9, some (6, false)⟩, []⟩,
    ⟨⟨.nilCheck (.slot 9), some 10, some (6, false)⟩, []⟩,
    ⟨⟨.faddr 0 (.slot 10), some 11, some (6, false)⟩, []⟩,
    ⟨⟨.load false 1 (.slot 11), some 12, some (6, false)⟩, []⟩,
    ⟨⟨.call (.const (.func 28 [] [])) [(.slot 7)], some 8, some (6, false)⟩, [⟨.load false 1 (.slot 1), some 9, some (6, false)⟩, ⟨.load false 1 (.slot 11), some 12, some (6, false)⟩]⟩,
    ⟨⟨.bin .gtr 3 .num (.slot 8) (.slot 12), some 13, some (6, false)⟩, []⟩,
    ⟨⟨.pick (.slot 6) (.const (.bool true)) (.slot 13), some 14, none⟩, []⟩,
    ⟨⟨.mv (.slot 14), some 3, none⟩, []⟩])
  .ret)),
  [.tmp 3]⟩
theorem xf71_ok : compFunc Tryz.prog Tryz.f71 = some xf71 := by kernel_rfl
/-- (*threshing/base.Base).follows$1 -/
def xf72 : XFunc := ⟨(.seq (.region false [⟨⟨.mv (.const (.bool false)), some 3, none⟩, []⟩])
  (.seq (.region false [⟨⟨.load false 1 (.slot 1), some 4, none⟩, []⟩,
    ⟨⟨.mv (.slot 0), some 5, none⟩, []⟩,
    ⟨⟨.mapup .i32 (.slot 4) (.slot 5) (.const (.bool true)), none, none⟩, []⟩])
  (.seq (.region false [⟨⟨.load false 1 (.slot 1), some 6, none⟩, []⟩,
    ⟨⟨.mv (.slot 0), some 7, none⟩, []⟩,
    ⟨⟨.un .neg (.slot 7), some 8, none⟩, []⟩,
    ⟨⟨.lookup .i32 (.bool false) (.slot 6) (.slot 8) false, some 9, none⟩, []⟩,
    ⟨⟨.mv (.slot 9), some 3, none⟩, []⟩])
  .ret))),
  [.tmp 3]⟩
theorem xf72_ok : compFunc Tryz.prog Tryz.f72 = some xf72 := by kernel_rfl
/-- slices.Index[threshing/api.Clause,threshing/api.Lit] -/
def xf73 : XFunc := ⟨(.seq (.region false [⟨⟨.mv (.const (.int .i64 (.ofNat 0))), some 4, none⟩, []⟩])
  (.seq (.seq (.region false [⟨⟨.mv (.slot 0), some 6, none⟩, []⟩,
    ⟨⟨.len .slice (.slot 6), some 7, none⟩, []⟩,
    ⟨⟨.mv (.const (.int .i64 (.ofNat 0))), some 8, none⟩, []⟩])
  (.block 0 (.loop (.seq (.region false [⟨⟨.bin .lss 3 .num (.slot 8) (.slot 7), some 9, none⟩, []⟩])
   (.seq (.cond (.slot 9)
    .skip
    (.exit 0))
   (.seq (.block 1 (.seq (.region false [⟨⟨.mv (.slot 8), some 10, none⟩, []⟩,
     ⟨⟨.mv (.slot 10), some 5, none⟩, []⟩])
   (.seq (.region false [⟨⟨.mv (.slot 1), some 11, none⟩, []⟩,
     ⟨⟨.mv (.slot 0), some 12, none⟩, []⟩,
     ⟨⟨.mv (.slot 5), some 13, none⟩, []⟩,
     ⟨⟨.iaddr 1 (.slot 12) (.slot 13), some 14, none⟩, []⟩,
     ⟨⟨.load false 1 (.slot 14), some 15, none⟩, []⟩,
     ⟨⟨.bin .eql 24 .num (.slot 11) (.slot 15), some 16, none⟩, []⟩])
   (.cond (.slot 16)
    (.seq (.region false [⟨⟨.mv (.slot 5), some 17, none⟩, []⟩,
      ⟨⟨.mv (.slot 17), some 4, none⟩, []⟩])
    .ret)
    .skip))))
   (.region false [⟨⟨.bin .add 3 .num (.slot 8) (.const (.int .i64 (.ofNat 1))), some 18, none⟩, []⟩,
     ⟨⟨.mv (.slot 18), some 8, none⟩, []⟩])))))))
  (.seq (.region false [⟨⟨.mv (.const (.int .i64 (.negSucc 0))), some 4, none⟩, []⟩])
  .ret))),
  [.tmp 4]⟩
theorem xf73_ok : compFunc Tryz.prog Tryz.f73 = some xf73 := by kernel_rfl
/-- (*threshing/base.Base).remove -/
def xf74 : XFunc := ⟨(.seq (.region false [⟨⟨.box (.slot 1), some 3, none⟩, []⟩,
    ⟨⟨.mv (.const (.int .i64 (.ofNat 0))), some 4, none⟩, []⟩])
  (.seq (.seq (.region false [⟨⟨.mv (.slot 0), some 7, none⟩, []⟩,
    ⟨⟨.call (.const (.func 57 [] [])) [(.slot 7)], some 8, none⟩, []⟩])
  (.cond (.slot 8)
   (.seq (.region false [⟨⟨.mv (.const (.int .i64 (.ofNat 3))), some 4, none⟩, []⟩])
   .ret)
   .skip))
  (.seq (.region true [⟨⟨.mv (.slot 0), some 9, none⟩, []⟩,
    ⟨⟨.nilCheck (.slot 9), some 10, none⟩, []⟩,
    ⟨⟨.faddr 1 (.slot 10), some 11, none⟩, []⟩,
    ⟨⟨.load false 1 (.slot 11), some 12, none⟩, []⟩,
    ⟨⟨.faddr 0 (.slot 3), some 13, none⟩, []⟩,
    ⟨⟨.load false 1 (.slot 13), some 14, none⟩, []⟩,
    ⟨⟨.delete .i64 (.slot 12) (.slot 14), none, none⟩, []⟩])
  (.seq (.region true [⟨⟨.mv (.slot 0), some 15, none⟩, []⟩,
    ⟨⟨.nilCheck (.slot 15), some 16, none⟩, []⟩,
    ⟨⟨.faddr 3 (.slot 16), some 17, none⟩, []⟩,
    ⟨⟨.load false 1 (.slot 17), some 18, none⟩, []⟩,
    ⟨⟨.faddr 0 (.slot 3), some 19, none⟩, []⟩,
    ⟨⟨.load false 1 (.slot 19), some 20, none⟩, []⟩,
    ⟨⟨.delete .i64 (.slot 18) (.slot 20), none, none⟩, []⟩])
  (.seq (.seq (.region false [⟨⟨.faddr 1 (.slot 3), some 21, none⟩, []⟩,
    ⟨⟨.load false 1 (.slot 21), some 22, none⟩, []⟩,
    ⟨⟨.len .slice (.slot 22), some 23, none⟩, []⟩,
    ⟨⟨.mv (.const (.int .i64 (.ofNat 0))), some 24, none⟩, []⟩])
  (.block 0 (.loop (.seq (.region false [⟨⟨.bin .lss 3 .num (.slot 24) (.slot 23), some 25, none⟩, []⟩])
   (.seq (.cond (.slot 25)
    .skip
    (.exit 0))
   (.seq (.block 1 (.seq (.region false [⟨⟨.iaddr 1 (.slot 22) (.slot 24), some 26, none⟩, []⟩,
     ⟨⟨.load false 1 (.slot 26), some 27, none⟩, []⟩,
     ⟨⟨.mv (.slot 27), some 6, none⟩, []⟩])
   (.region true [⟨⟨.mv (.slot 0), some 28, none⟩, []⟩,
     ⟨⟨.nilCheck (.slot 28), some 29, none⟩, []⟩,
     ⟨⟨.faddr 2 (.slot 29), some 30, none⟩, []⟩,
     ⟨⟨.load false 1 (.slot 30), some 31, none⟩, []⟩,
     ⟨⟨.mv (.slot 6), some 32, none⟩, []⟩,
     ⟨⟨.lookup .i32 .nilm (.slot 31) (.slot 32) false, some 33, none⟩, []⟩,
     ⟨⟨.faddr 0 (.slot 3), some 34, none⟩, []⟩,
     ⟨⟨.load false 1 (.slot 34), some 35, none⟩, []⟩,
     ⟨⟨.delete .i64 (.slot 33) (.slot 35), none, none⟩, []⟩])))
   (.region false [⟨⟨.bin .add 3 .num (.slot 24) (.const (.int .i64 (.ofNat 1))), some 36, none⟩, []⟩,
     ⟨⟨.mv (.slot 36), some 24, none⟩, []⟩])))))))
  (.seq (.region true [⟨⟨.mv (.slot 0), some 37, none⟩, []⟩,
    ⟨⟨.mv (.slot 0), some 38, none⟩, []⟩,
    ⟨⟨.nilCheck (.slot 38), some 39, none⟩, []⟩,
    ⟨⟨.faddr 5 (.slot 39), some 40, none⟩, []⟩,
    ⟨⟨.load false 1 (.slot 40), some 41, none⟩, []⟩,
    ⟨⟨.mv (.slot 0), some 42, none⟩, []⟩,
    ⟨⟨.nilCheck (.slot 42), some 43, none⟩, []⟩,
    ⟨⟨.faddr 4 (.slot 43), some 44, none⟩, []⟩,
    ⟨⟨.load false 1 (.slot 44), some 45, none⟩, []⟩,
    ⟨⟨.faddr 0 (.slot 3), some 46, none⟩, []⟩,
    ⟨⟨.load false 1 (.slot 46), some 47, none⟩, []⟩,
    ⟨⟨.bslice 1 [(.int .i64 (.ofNat 0))] [(0, 1, (.slot 47))] 1, some 48, none⟩, [⟨.load false 1 (.slot 40), some 41, none⟩, ⟨.load false 1 (.slot 44), some 45, none⟩]⟩,
    ⟨⟨.build [(.int .u8 (.ofNat 0)), (.int .i64 (.ofNat 0)), .nils, .nils] [(0, 1, (.const (.int .u8 (.ofNat 2)))), (1, 1, (.slot 45)), (3, 1, (.slot 48))], some 49, none⟩, []⟩,
    ⟨⟨.bslice 4 [(.int .u8 (.ofNat 0)), (.int .i64 (.ofNat 0)), .nils, .nils] [(0, 4, (.slot 49))] 1, some 50, none⟩, [⟨.load false 1 (.slot 40), some 41, none⟩]⟩,
    ⟨⟨.append 4 64 (.slot 41) (.slot 50), some 51, none⟩, []⟩,
    ⟨⟨.nilCheck (.slot 37), some 52, none⟩, []⟩,
    ⟨⟨.faddr 5 (.slot 52), some 53, none⟩, []⟩,
    ⟨⟨.store 1 (.slot 53) (.slot 51), none, none⟩, []⟩])
  (.seq (.region false [⟨⟨.mv (.const (.int .i64 (.ofNat 0))), some 4, none⟩, []⟩])
  .ret))))))),
  [.tmp 4]⟩
theorem xf74_ok : compFunc Tryz.prog Tryz.f74 = some xf74 := by kernel_rfl
/-- slices.ContainsFunc[[]int64,int64] -/
def xf75 : XFunc := ⟨(.seq (.region false [⟨⟨.mv (.const (.bool false)), some 4, none⟩, []⟩])
  (.seq (.region false [⟨⟨.mv (.slot 0), some 5, none⟩, []⟩,
    ⟨⟨.mv (.slot 1), some 6, none⟩, []⟩,
    ⟨⟨.call (.const (.func 100 [] [])) [(.slot 5), (.slot 6)], some 7, none⟩, []⟩,
    ⟨⟨.bin .geq 3 .num (.slot 7) (.const (.int .i64 (.ofNat 0))), some 8, none⟩, []⟩,
    ⟨⟨.mv (.slot 8), some 4, none⟩, []⟩])
  .ret)),
  [.tmp 4]⟩
theorem xf75_ok : compFunc Tryz.prog Tryz.f75 = some xf75 := by kernel_rfl
/-- (*threshing/base.Base).Occurs -/
def xf76 : XFunc := ⟨(.seq (.region false [⟨⟨.mv (.const .nils), some 4, none⟩, []⟩])
  (.seq (.seq (.region false [⟨⟨.mv (.slot 0), some 5, none⟩, []⟩,
    ⟨⟨.bin .eql 22 .ptr (.slot 5) (.const .nilp), some 6, none⟩, []⟩])
  (.cond (.slot 6)
   (.seq (.region false [⟨⟨.mv (.const .nils), some 4, none⟩, []⟩])
   .ret)
   .skip))
  (.seq (.region false [⟨⟨.mv (.slot 0), some 7, none⟩, []⟩,
    ⟨⟨.nilCheck (.slot 7), some 8, none⟩, []⟩,
    ⟨⟨.faddr 2 (.slot 8), some 9, none⟩, []⟩,
    ⟨⟨.load false 1 (.slot 9), some 10, none⟩, []⟩,
    ⟨⟨.mv (.slot 1), some 11, none⟩, []⟩,
    ⟨⟨.lookup .i32 .nilm (.slot 10) (.slot 11) false, some 12, none⟩, []⟩,
    ⟨⟨.call (.const (.func 25 [] [])) [(.slot 12)], some 13, none⟩, []⟩,
    ⟨⟨.call (.const (.func 21 [] [])) [(.slot 13)], some 14, none⟩, []⟩,
    ⟨⟨.mv (.slot 14), some 4, none⟩, []⟩])
  .ret))),
  [.tmp 4]⟩
theorem xf76_ok : compFunc Tryz.prog Tryz.f76 = some xf76 := by kernel_rfl
/-- (*threshing/probe.prober).two$1 -/
def xf77 : XFunc := ⟨(.seq (.region false [⟨⟨.mv (.const (.bool false)), some 4, none⟩, []⟩])
  (.seq (.region false [⟨⟨.load false 1 (.slot 1), some 8, none⟩, []⟩,
    ⟨⟨.nilCheck (.slot 8), some 9, none⟩, []⟩,
    ⟨⟨.faddr 0 (.slot 9), some 10, none⟩, []⟩,
    ⟨⟨.load false 1 (.slot 10), some 11, none⟩, []⟩,
    ⟨⟨.mv (.slot 0), some 12, none⟩, []⟩,
    ⟨⟨.call (.const (.func 6 [] [])) [(.slot 11), (.slot 12)], some 13, none⟩, []⟩,
    ⟨⟨.mv (.slot 13), some 7, none⟩, []⟩,
    ⟨⟨.extract (.slot 7) 0, some 14, none⟩, []⟩,
    ⟨⟨.extract (.slot 7) 1, some 15, none⟩, []⟩,
    ⟨⟨.alloc [(.int .i64 (.ofNat 0)), .nils, (.bool false)], some 5, none⟩, []⟩,
    ⟨⟨.store 3 (.slot 5) (.slot 14), none, none⟩, []⟩,
    ⟨⟨.mv (.slot 15), some 6, none⟩, []⟩])
  (.seq (.region false [⟨⟨.faddr 1 (.slot 5), some 16, none⟩, []⟩,
    ⟨⟨.load false 1 (.slot 16), some 17, none⟩, []⟩,
    ⟨⟨.load false 1 (.slot 2), some 18, none⟩, []⟩,
    ⟨⟨.call (.const (.func 78 [] [])) [(.slot 17), (.slot 18)], some 19, none⟩, []⟩,
    ⟨⟨.mv (.slot 19), some 4, none⟩, []⟩])
  .ret))),
  [.tmp 4]⟩
theorem xf77_ok : compFunc Tryz.prog Tryz.f77 = some xf77 := by kernel_rfl
/-- threshing/cnf.Same -/
def xf78 : XFunc := ⟨(.seq (.region false [⟨⟨.mv (.const (.bool false)), some 4, none⟩, []⟩])
  (.seq (.region false [⟨⟨.mv (.slot 0), some 5, none⟩, []⟩,
    ⟨⟨.mv (.slot 1), some 6, none⟩, []⟩,
    ⟨⟨.call (.const (.func 101 [] [])) [(.slot 5), (.slot 6)], some 7, none⟩, []⟩,
    ⟨⟨.mv (.slot 7), some 8, none⟩, []⟩,
    ⟨⟨.mv (.slot 1), some 9, some (8, true)⟩, []⟩,
    ⟨⟨.mv (.slot 0), some 10, some (8, true)⟩, []⟩,
    ⟨⟨.call (.const (.func 101 [] [])) [(.slot 9), (.slot 10)], some 11, some (8, true)⟩, []⟩,
    ⟨⟨.pick (.slot 8) (.slot 11) (.const (.bool false)), some 12, none⟩, []⟩,
    ⟨⟨.mv (.slot 12), some 4, none⟩, []⟩])
  .ret)),
  [.tmp 4]⟩
theorem xf78_ok : compFunc Tryz.prog Tryz.f78 = some xf78 := by kernel_rfl
/-- slices.insertionSortOrdered[int64] -/
def xf79 : XFunc := ⟨(.seq (.region false [⟨⟨.mv (.slot 1), some 8, none⟩, []⟩,
    ⟨⟨.bin .add 3 .num (.slot 8) (.const (.int .i64 (.ofNat 1))), some 9, none⟩, []⟩,
    ⟨⟨.mv (.slot 9), some 6, none⟩, []⟩])
  (.block 0 (.loop (.seq (.seq (.region false [⟨⟨.mv (.slot 6), some 10, none⟩, []⟩,
     ⟨⟨.mv (.slot 2), some 11, none⟩, []⟩,
     ⟨⟨.bin .lss 3 .num (.slot 10) (.slot 11), some 12, none⟩, []⟩])
   (.cond (.slot 12)
    .skip
    (.exit 0)))
   (.seq (.block 1 (.seq (.region false [⟨⟨.mv (.slot 6), some 15, none⟩, []⟩,
     ⟨⟨.mv (.slot 15), some 7, none⟩, []⟩])
   (.block 2 (.loop (.seq (.seq (.region true [⟨⟨.mv (.slot 7), some 16, none⟩, []⟩,
      ⟨⟨.mv (.slot 1), some 17, none⟩, []⟩,
      ⟨⟨.bin .gtr 3 .num (.slot 16) (.slot 17), some 18, none⟩, []⟩,
      ⟨⟨.mv (.slot 18), some 19, none⟩, []⟩,
      ⟨⟨.mv (.slot 0), some 20, some (19, true)⟩, []⟩,
      ⟨⟨.mv (.slot 7), some 21, some (19, true)⟩, []⟩,
      ⟨⟨.iaddr 1 (.slot 20) (.slot 21), some 22, some (19, true)⟩, []⟩,
      ⟨⟨.load false 1 (.slot 22), some 23, some (19, true)⟩, []⟩,
      ⟨⟨.mv (.slot 0), some 24, some (19, true)⟩, []⟩,
      ⟨⟨.mv (.slot 7), some 25, some (19, true)⟩, []⟩,
      ⟨⟨.bin .sub 3 .num (.slot 25) (.const (.int .i64 (.ofNat 1))), some 26, some (19, true)⟩, []⟩,
      ⟨⟨.iaddr 1 (.slot 24) (.slot 26), some 27, some (19, true)⟩, []⟩,
      ⟨⟨.load false 1 (.slot 27), some 28, some (19, true)⟩, []⟩,
      ⟨⟨.call (.const (.func 85 [] [])) [(.slot 23), (.slot 28)], some 29, some (19, true)⟩, []⟩,
      ⟨⟨.pick (.slot 19) (.slot 29) (.const (.bool false)), some 30, none⟩, []⟩])
    (.cond (.slot 30)
     .skip
     (.exit 2)))
    (.seq (.block 3 (.region true [⟨⟨.mv (.slot 0), some 33, none⟩, []⟩,
      ⟨⟨.mv (.slot 7), some 34, none⟩, []⟩,
      ⟨⟨.mv (.slot 0), some 35, none⟩, []⟩,
      ⟨⟨.mv (.slot 7), some 36, none⟩, []⟩,
      ⟨⟨.bin .sub 3 .num (.slot 36) (.const (.int .i64 (.ofNat 1))), some 37, none⟩, []⟩,
      ⟨⟨.mv (.slot 0), some 38, none⟩, []⟩,
      ⟨⟨.mv (.slot 7), some 39, none⟩, []⟩,
      ⟨⟨.bin .sub 3 .num (.slot 39) (.const (.int .i64 (.ofNat 1))), some 40, none⟩, []⟩,
      ⟨⟨.iaddr 1 (.slot 38) (.slot 40), some 41, none⟩, []⟩,
      ⟨⟨.load false 1 (.slot 41), some 42, none⟩, []⟩,
      ⟨⟨.mv (.slot 0), some 43, none⟩, []⟩,
      ⟨⟨.mv (.slot 7), some 44, none⟩, []⟩,
      ⟨⟨.iaddr 1 (.slot 43) (.slot 44), some 45, none⟩, []⟩,
      ⟨⟨.load false 1 (.slot 45), some 46, none⟩, []⟩,
      ⟨⟨.iaddr 1 (.slot 33) (.slot 34), some 47, none⟩, []⟩,
      ⟨⟨.store 1 (.slot 47) (.slot 42), none, none⟩, []⟩,
      ⟨⟨.iaddr 1 (.slot 35) (.slot 37), some 48, none⟩, []⟩,
      ⟨⟨.store 1 (.slot 48) (.slot 46), none, none⟩, []⟩]))
    (.region false [⟨⟨.mv (.slot 7), some 31, none⟩, []⟩,
      ⟨⟨.bin .sub 3 .num (.slot 31) (.const (.int .i64 (.ofNat 1))), some 32, none⟩, []⟩,
      ⟨⟨.mv (.slot 32), some 7, none⟩, []⟩])))))))
   (.region false [⟨⟨.mv (.slot 6), some 13, none⟩, []⟩,
     ⟨⟨.bin .add 3 .num (.slot 13) (.const (.int .i64 (.ofNat 1))), some 14, none⟩, []⟩,
     ⟨⟨.mv (.slot 14), some 6, none⟩, []⟩])))))),
  []⟩
theorem xf79_ok : compFunc Tryz.prog Tryz.f79 = some xf79 := by kernel_rfl
/-- slices.heapSortOrdered[int64] -/
def xf80 : XFunc := ⟨(.seq (.region false [⟨⟨.mv (.slot 1), some 11, none⟩, []⟩,
    ⟨⟨.mv (.slot 11), some 6, none⟩, []⟩])
  (.seq (.region false [⟨⟨.mv (.const (.int .i64 (.ofNat 0))), some 7, none⟩, []⟩])
  (.seq (.region false [⟨⟨.mv (.slot 2), some 12, none⟩, []⟩,
    ⟨⟨.mv (.slot 1), some 13, none⟩, []⟩,
    ⟨⟨.bin .sub 3 .num (.slot 12) (.slot 13), some 14, none⟩, []⟩,
    ⟨⟨.mv (.slot 14), some 8, none⟩, []⟩])
  (.seq (.seq (.region false [⟨⟨.mv (.slot 8), some 15, none⟩, []⟩,
    ⟨⟨.bin .sub 3 .num (.slot 15) (.const (.int .i64 (.ofNat 1))), some 16, none⟩, []⟩,
    ⟨⟨.bin .quo 3 .num (.slot 16) (.const (.int .i64 (.ofNat 2))), some 17, none⟩, []⟩,
    ⟨⟨.mv (.slot 17), some 9, none⟩, []⟩])
  (.block 0 (.loop (.seq (.seq (.region false [⟨⟨.mv (.slot 9), some 18, none⟩, []⟩,
     ⟨⟨.bin .geq 3 .num (.slot 18) (.const (.int .i64 (.ofNat 0))), some 19, none⟩, []⟩])
   (.cond (.slot 19)
    .skip
    (.exit 0)))
   (.seq (.block 1 (.region false [⟨⟨.mv (.slot 0), some 22, none⟩, []⟩,
     ⟨⟨.mv (.slot 9), some 23, none⟩, []⟩,
     ⟨⟨.mv (.slot 8), some 24, none⟩, []⟩,
     ⟨⟨.mv (.slot 6), some 25, none⟩, []⟩,
     ⟨⟨.call (.const (.func 102 [] [])) [(.slot 22), (.slot 23), (.slot 24), (.slot 25)], some 26, none⟩, []⟩]))
   (.region false [⟨⟨.mv (.slot 9), some 20, none⟩, []⟩,
     ⟨⟨.bin .sub 3 .num (.slot 20) (.const (.int .i64 (.ofNat 1))), some 21, none⟩, []⟩,
     ⟨⟨.mv (.slot 21), some 9, none⟩, []⟩]))))))
  (.seq (.region false [⟨⟨.mv (.slot 8), some 27, none⟩, []⟩,
    ⟨⟨.bin .sub 3 .num (.slot 27) (.const (.int .i64 (.ofNat 1))), some 28, none⟩, []⟩,
    ⟨⟨.mv (.slot 28), some 10, none⟩, []⟩])
  (.block 2 (.loop (.seq (.seq (.region false [⟨⟨.mv (.slot 10), some 29, none⟩, []⟩,
     ⟨⟨.bin .geq 3 .num (.slot 29) (.const (.int .i64 (.ofNat 0))), some 30, none⟩, []⟩])
   (.cond (.slot 30)
    .skip
    (.exit 2)))
   (.seq (.block 3 (.seq (.region true [⟨⟨.mv (.slot 0), some 33, none⟩, []⟩,
     ⟨⟨.mv (.slot 6), some 34, none⟩, []⟩,
     ⟨⟨.mv (.slot 0), some 35, none⟩, []⟩,
     ⟨⟨.mv (.slot 6), some 36, none⟩, []⟩,
     ⟨⟨.mv (.slot 10), some 37, none⟩, []⟩,
     ⟨⟨.bin .add 3 .num (.slot 36) (.slot 37), some 38, none⟩, []⟩,
     ⟨⟨.mv (.slot 0), some 39, none⟩, []⟩,
     ⟨⟨.mv (.slot 6), some 40, none⟩, []⟩,
     ⟨⟨.mv (.slot 10), some 41, none⟩, []⟩,
     ⟨⟨.bin .add 3 .num (.slot 40) (.slot 41), some 42, none⟩, []⟩,
     ⟨⟨.iaddr 1 (.slot 39) (.slot 42), some 43, none⟩, []⟩,
     ⟨⟨.load false 1 (.slot 43), some 44, none⟩, []⟩,
     ⟨⟨.mv (.slot 0), some 45, none⟩, []⟩,
     ⟨⟨.mv (.slot 6), some 46, none⟩, []⟩,
     ⟨⟨.iaddr 1 (.slot 45) (.slot 46), some 47, none⟩, []⟩,
     ⟨⟨.load false 1 (.slot 47), some 48, none⟩, []⟩,
     ⟨⟨.iaddr 1 (.slot 33) (.slot 34), some 49, none⟩, []⟩,
     ⟨⟨.store 1 (.slot 49) (.slot 44), none, none⟩, []⟩,
     ⟨⟨.iaddr 1 (.slot 35) (.slot 38), some 50, none⟩, []⟩,
     ⟨⟨.store 1 (.slot 50) (.slot 48), none, none⟩, []⟩])
   (.region false [⟨⟨.mv (.slot 0), some 51, none⟩, []⟩,
     ⟨⟨.mv (.slot 7), some 52, none⟩, []⟩,
     ⟨⟨.mv (.slot 10), some 53, none⟩, []⟩,
     ⟨⟨.mv (.slot 6), some 54, none⟩, []⟩,
     ⟨⟨.call (.const (.func 102 [] [])) [(.slot 51), (.slot 52), (.slot 53), (.slot 54)], some 55, none⟩, []⟩])))
   (.region false [⟨⟨.mv (.slot 10), some 31, none⟩, []⟩,
     ⟨⟨.bin .sub 3 .num (.slot 31) (.const (.int .i64 (.ofNat 1))), some 32, none⟩, []⟩,
     ⟨⟨.mv (.slot 32), some 10, none⟩, []⟩])))))))))),
  []⟩
theorem xf80_ok : compFunc Tryz.prog Tryz.f80 = some xf80 := by kernel_rfl
end Go.Proofs.YtfcafnbpkapikaaGreat

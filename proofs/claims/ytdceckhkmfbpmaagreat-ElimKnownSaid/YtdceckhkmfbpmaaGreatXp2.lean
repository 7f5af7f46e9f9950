/- The functions of the program in X's code, printed by a program of ours; each is what the program's own is turned to. -/
import Derived.Test.YtdceckhkmfbpmaaGreatProg
import Derived.Test.YtdceckhkmfbpmaaGreatXc
import Derived.KernelRfl
namespace Go.Proofs.YtdceckhkmfbpmaaGreat
open Go.Xr
/-- (*threshing/gates.finder).equals -/
def xf55 : XFunc := ⟨(.seq (.region false [⟨⟨.mv (.const .nils), some 2, none⟩, []⟩])
  (.seq (.seq (.region false [⟨⟨.mv (.slot 0), some 7, none⟩, []⟩,
    ⟨⟨.nilCheck (.slot 7), some 8, none⟩, []⟩,
    ⟨⟨.faddr 3 (.slot 8), some 9, none⟩, []⟩,
    ⟨⟨.load false 1 (.slot 9), some 10, none⟩, []⟩,
    ⟨⟨.len .slice (.slot 10), some 11, none⟩, []⟩,
    ⟨⟨.mv (.const (.int .i64 (.ofNat 0))), some 12, none⟩, []⟩])
  (.block 0 (.loop (.seq (.region false [⟨⟨.bin .lss 3 .num (.slot 12) (.slot 11), some 13, none⟩, []⟩])
   (.seq (.cond (.slot 13)
    .skip
    (.exit 0))
   (.seq (.block 1 (.seq (.region false [⟨⟨.iaddr 1 (.slot 10) (.slot 12), some 14, none⟩, []⟩,
     ⟨⟨.load false 1 (.slot 14), some 15, none⟩, []⟩,
     ⟨⟨.mv (.slot 15), some 4, none⟩, []⟩])
   (.seq (.region true [⟨⟨.mv (.slot 0), some 17, none⟩, []⟩,
     ⟨⟨.mv (.slot 0), some 18, none⟩, []⟩,
     ⟨⟨.nilCheck (.slot 18), some 19, none⟩, []⟩,
     ⟨⟨.faddr 1 (.slot 19), some 20, none⟩, []⟩,
     ⟨⟨.load false 1 (.slot 20), some 21, none⟩, []⟩,
     ⟨⟨.un .neg (.slot 21), some 22, none⟩, []⟩,
     ⟨⟨.mv (.slot 4), some 23, none⟩, []⟩,
     ⟨⟨.mv (.slot 0), some 25, none⟩, []⟩,
     ⟨⟨.nilCheck (.slot 25), some 26, none⟩, []⟩,
     ⟨⟨.faddr 1 (.slot 26), some 27, none⟩, []⟩,
     ⟨⟨.load false 1 (.slot 27), some 28, none⟩, []⟩,
     ⟨⟨.mv (.slot 4), some 29, none⟩, []⟩,
     ⟨⟨.un .neg (.slot 29), some 30, none⟩, []⟩,
     ⟨⟨.bslice 1 [(.int .i32 (.ofNat 0)), (.int .i32 (.ofNat 0))] [(0, 1, (.slot 22)), (1, 1, (.slot 23))] 2, some 24, none⟩, [⟨.load false 1 (.slot 27), some 28, none⟩]⟩,
     ⟨⟨.bslice 1 [(.int .i32 (.ofNat 0)), (.int .i32 (.ofNat 0))] [(0, 1, (.slot 28)), (1, 1, (.slot 30))] 2, some 31, none⟩, [⟨.load false 1 (.slot 20), some 21, none⟩]⟩,
     ⟨⟨.bslice 1 [.nils, .nils] [(0, 1, (.slot 24)), (1, 1, (.slot 31))] 2, some 32, none⟩, []⟩,
     ⟨⟨.call (.const (.func 73 [] [])) [(.slot 17), (.slot 32)], some 33, none⟩, []⟩,
     ⟨⟨.mv (.slot 33), some 16, none⟩, []⟩,
     ⟨⟨.extract (.slot 16) 0, some 34, none⟩, []⟩,
     ⟨⟨.extract (.slot 16) 1, some 35, none⟩, []⟩,
     ⟨⟨.mv (.slot 34), some 5, none⟩, []⟩,
     ⟨⟨.mv (.slot 35), some 6, none⟩, []⟩])
   (.seq (.region false [⟨⟨.mv (.slot 6), some 36, none⟩, []⟩])
   (.cond (.slot 36)
    (.region false [⟨⟨.mv (.slot 2), some 37, none⟩, []⟩,
      ⟨⟨.mv (.slot 0), some 38, none⟩, []⟩,
      ⟨⟨.nilCheck (.slot 38), some 39, none⟩, []⟩,
      ⟨⟨.faddr 1 (.slot 39), some 40, none⟩, []⟩,
      ⟨⟨.load false 1 (.slot 40), some 41, none⟩, []⟩,
      ⟨⟨.mv (.slot 4), some 42, none⟩, []⟩,
      ⟨⟨.bslice 1 [(.int .i32 (.ofNat 0))] [(0, 1, (.slot 42))] 1, some 43, none⟩, []⟩,
      ⟨⟨.mv (.slot 5), some 44, none⟩, []⟩,
      ⟨⟨.build [(.int .u8 (.ofNat 0)), (.int .i32 (.ofNat 0)), .nils, .nils] [(0, 1, (.const (.int .u8 (.ofNat 1)))), (1, 1, (.slot 41)), (2, 1, (.slot 43)), (3, 1, (.slot 44))], some 45, none⟩, []⟩,
      ⟨⟨.bslice 4 [(.int .u8 (.ofNat 0)), (.int .i32 (.ofNat 0)), .nils, .nils] [(0, 4, (.slot 45))] 1, some 46, none⟩, []⟩,
      ⟨⟨.append 4 56 (.slot 37) (.slot 46), some 47, none⟩, []⟩,
      ⟨⟨.mv (.slot 47), some 2, none⟩, []⟩])
    .skip)))))
   (.region false [⟨⟨.bin .add 3 .num (.slot 12) (.const (.int .i64 (.ofNat 1))), some 48, none⟩, []⟩,
     ⟨⟨.mv (.slot 48), some 12, none⟩, []⟩])))))))
  (.seq (.region false [⟨⟨.mv (.slot 2), some 49, none⟩, []⟩,
    ⟨⟨.mv (.slot 49), some 2, none⟩, []⟩])
  .ret))),
  [.tmp 2]⟩
theorem xf55_ok : compFunc Tryz.prog Tryz.f55 = some xf55 := by kernel_rfl
/-- (*threshing/gates.finder).ands -/
def xf56 : XFunc := ⟨(.seq (.region false [⟨⟨.mv (.const .nils), some 2, none⟩, []⟩])
  (.seq (.seq (.region true [⟨⟨.mv (.slot 0), some 17, none⟩, []⟩,
    ⟨⟨.nilCheck (.slot 17), some 18, none⟩, []⟩,
    ⟨⟨.faddr 1 (.slot 18), some 19, none⟩, []⟩,
    ⟨⟨.load false 1 (.slot 19), some 20, none⟩, []⟩,
    ⟨⟨.mv (.slot 0), some 21, none⟩, []⟩,
    ⟨⟨.nilCheck (.slot 21), some 22, none⟩, []⟩,
    ⟨⟨.faddr 1 (.slot 22), some 23, none⟩, []⟩,
    ⟨⟨.load false 1 (.slot 23), some 24, none⟩, []⟩,
    ⟨⟨.un .neg (.slot 24), some 25, none⟩, []⟩,
    ⟨⟨.mv (.const (.int .i64 (.ofNat 0))), some 28, none⟩, []⟩,
    ⟨⟨.bslice 1 [(.int .i32 (.ofNat 0)), (.int .i32 (.ofNat 0))] [(0, 1, (.slot 20)), (1, 1, (.slot 25))] 2, some 26, none⟩, []⟩,
    ⟨⟨.len .slice (.slot 26), some 27, none⟩, []⟩])
  (.block 0 (.loop (.seq (.region false [⟨⟨.bin .lss 3 .num (.slot 28) (.slot 27), some 29, none⟩, []⟩])
   (.seq (.cond (.slot 29)
    .skip
    (.exit 0))
   (.seq (.block 1 (.seq (.region false [⟨⟨.iaddr 1 (.slot 26) (.slot 28), some 30, none⟩, []⟩,
     ⟨⟨.load false 1 (.slot 30), some 31, none⟩, []⟩,
     ⟨⟨.mv (.slot 31), some 4, none⟩, []⟩])
   (.seq (.region false [⟨⟨.mv (.slot 0), some 32, none⟩, []⟩,
     ⟨⟨.nilCheck (.slot 32), some 33, none⟩, []⟩,
     ⟨⟨.faddr 2 (.slot 33), some 34, none⟩, []⟩,
     ⟨⟨.load false 1 (.slot 34), some 35, none⟩, []⟩,
     ⟨⟨.len .slice (.slot 35), some 36, none⟩, []⟩,
     ⟨⟨.mv (.const (.int .i64 (.ofNat 0))), some 37, none⟩, []⟩])
   (.block 2 (.loop (.seq (.region false [⟨⟨.bin .lss 3 .num (.slot 37) (.slot 36), some 38, none⟩, []⟩])
    (.seq (.cond (.slot 38)
     .skip
     (.exit 2))
    (.seq (.block 3 (.seq (.region false [⟨⟨.iaddr 3 (.slot 35) (.slot 37), some 39, none⟩, []⟩,
      ⟨⟨.load true 3 (.slot 39), some 40, none⟩, []⟩,
      ⟨⟨.alloc [(.int .i64 (.ofNat 0)), .nils, (.bool false)], some 6, none⟩, []⟩,
      ⟨⟨.store 3 (.slot 6) (.slot 40), none, none⟩, []⟩])
    (.seq (.region false [⟨⟨.faddr 1 (.slot 6), some 42, none⟩, []⟩,
      ⟨⟨.load false 1 (.slot 42), some 43, none⟩, []⟩,
      ⟨⟨.call (.const (.func 74 [] [])) [(.slot 43)], some 44, none⟩, []⟩,
      ⟨⟨.mv (.slot 44), some 41, none⟩, []⟩,
      ⟨⟨.extract (.slot 41) 0, some 45, none⟩, []⟩,
      ⟨⟨.extract (.slot 41) 1, some 46, none⟩, []⟩,
      ⟨⟨.mv (.slot 45), some 7, none⟩, []⟩,
      ⟨⟨.mv (.slot 46), some 8, none⟩, []⟩])
    (.seq (.seq (.region false [⟨⟨.mv (.slot 8), some 47, none⟩, []⟩,
      ⟨⟨.mv (.slot 47), some 48, none⟩, []⟩,
      ⟨⟨.mv (.slot 7), some 49, some (48, false)⟩, []⟩,
      ⟨⟨.len .slice (.slot 49), some 50, some (48, false)⟩, []⟩,
      ⟨⟨.bin .lss 3 .num (.slot 50) (.const (.int .i64 (.ofNat 3))), some 51, some (48, false)⟩, []⟩,
      ⟨⟨.pick (.slot 48) (.const (.bool true)) (.slot 51), some 52, none⟩, []⟩,
      ⟨⟨.mv (.slot 52), some 53, none⟩, []⟩,
      ⟨⟨.mv (.slot 7), some 54, some (53, false)⟩, []⟩,
      ⟨⟨.mv (.slot 4), some 55, some (53, false)⟩, []⟩,
      ⟨⟨.call (.const (.func 40 [] [])) [(.slot 54), (.slot 55)], some 56, some (53, false)⟩, []⟩,
      ⟨⟨.un .not (.slot 56), some 57, some (53, false)⟩, []⟩,
      ⟨⟨.pick (.slot 53) (.const (.bool true)) (.slot 57), some 58, none⟩, []⟩])
    (.cond (.slot 58)
     (.exit 3)
     .skip))
    (.seq (.region false [⟨⟨.mv (.const .nils), some 9, none⟩, []⟩])
    (.seq (.seq (.region false [⟨⟨.mv (.slot 7), some 59, none⟩, []⟩,
      ⟨⟨.len .slice (.slot 59), some 60, none⟩, []⟩,
      ⟨⟨.mv (.const (.int .i64 (.ofNat 0))), some 61, none⟩, []⟩])
    (.block 4 (.loop (.seq (.region false [⟨⟨.bin .lss 3 .num (.slot 61) (.slot 60), some 62, none⟩, []⟩])
     (.seq (.cond (.slot 62)
      .skip
      (.exit 4))
     (.seq (.block 5 (.seq (.region false [⟨⟨.iaddr 1 (.slot 59) (.slot 61), some 63, none⟩, []⟩,
       ⟨⟨.load false 1 (.slot 63), some 64, none⟩, []⟩,
       ⟨⟨.mv (.slot 64), some 11, none⟩, []⟩])
     (.seq (.region false [⟨⟨.mv (.slot 11), some 65, none⟩, []⟩,
       ⟨⟨.mv (.slot 4), some 66, none⟩, []⟩,
       ⟨⟨.bin .neq 24 .num (.slot 65) (.slot 66), some 67, none⟩, []⟩])
     (.cond (.slot 67)
      (.region false [⟨⟨.mv (.slot 9), some 68, none⟩, []⟩,
        ⟨⟨.mv (.slot 11), some 69, none⟩, []⟩,
        ⟨⟨.un .neg (.slot 69), some 70, none⟩, []⟩,
        ⟨⟨.bslice 1 [(.int .i32 (.ofNat 0))] [(0, 1, (.slot 70))] 1, some 71, none⟩, []⟩,
        ⟨⟨.append 1 4 (.slot 68) (.slot 71), some 72, none⟩, []⟩,
        ⟨⟨.mv (.slot 72), some 9, none⟩, []⟩])
      .skip))))
     (.region false [⟨⟨.bin .add 3 .num (.slot 61) (.const (.int .i64 (.ofNat 1))), some 73, none⟩, []⟩,
       ⟨⟨.mv (.slot 73), some 61, none⟩, []⟩])))))))
    (.seq (.region false [⟨⟨.mv (.slot 9), some 74, none⟩, []⟩,
      ⟨⟨.len .slice (.slot 74), some 75, none⟩, []⟩,
      ⟨⟨.mkslice [.nils] 24 (.slot 75) (.slot 75), some 76, none⟩, []⟩,
      ⟨⟨.mv (.slot 76), some 12, none⟩, []⟩])
    (.seq (.seq (.region false [⟨⟨.mv (.slot 9), some 77, none⟩, []⟩,
      ⟨⟨.len .slice (.slot 77), some 78, none⟩, []⟩,
      ⟨⟨.mv (.const (.int .i64 (.ofNat 0))), some 79, none⟩, []⟩])
    (.block 6 (.loop (.seq (.region false [⟨⟨.bin .lss 3 .num (.slot 79) (.slot 78), some 80, none⟩, []⟩])
     (.seq (.cond (.slot 80)
      .skip
      (.exit 6))
     (.seq (.block 7 (.seq (.region false [⟨⟨.mv (.slot 79), some 81, none⟩, []⟩,
       ⟨⟨.iaddr 1 (.slot 77) (.slot 79), some 82, none⟩, []⟩,
       ⟨⟨.load false 1 (.slot 82), some 83, none⟩, []⟩,
       ⟨⟨.mv (.slot 81), some 13, none⟩, []⟩,
       ⟨⟨.mv (.slot 83), some 14, none⟩, []⟩])
     (.region false [⟨⟨.mv (.slot 12), some 84, none⟩, []⟩,
       ⟨⟨.mv (.slot 13), some 85, none⟩, []⟩,
       ⟨⟨.mv (.slot 4), some 86, none⟩, []⟩,
       ⟨⟨.un .neg (.slot 86), some 87, none⟩, []⟩,
       ⟨⟨.mv (.slot 14), some 88, none⟩, []⟩,
       ⟨⟨.bslice 1 [(.int .i32 (.ofNat 0)), (.int .i32 (.ofNat 0))] [(0, 1, (.slot 87)), (1, 1, (.slot 88))] 2, some 89, none⟩, []⟩,
       ⟨⟨.iaddr 1 (.slot 84) (.slot 85), some 90, none⟩, []⟩,
       ⟨⟨.store 1 (.slot 90) (.slot 89), none, none⟩, []⟩])))
     (.region false [⟨⟨.bin .add 3 .num (.slot 79) (.const (.int .i64 (.ofNat 1))), some 91, none⟩, []⟩,
       ⟨⟨.mv (.slot 91), some 79, none⟩, []⟩])))))))
    (.seq (.region false [⟨⟨.mv (.slot 0), some 93, none⟩, []⟩,
      ⟨⟨.mv (.slot 12), some 94, none⟩, []⟩,
      ⟨⟨.call (.const (.func 73 [] [])) [(.slot 93), (.slot 94)], some 95, none⟩, []⟩,
      ⟨⟨.mv (.slot 95), some 92, none⟩, []⟩,
      ⟨⟨.extract (.slot 92) 0, some 96, none⟩, []⟩,
      ⟨⟨.extract (.slot 92) 1, some 97, none⟩, []⟩,
      ⟨⟨.mv (.slot 96), some 15, none⟩, []⟩,
      ⟨⟨.mv (.slot 97), some 16, none⟩, []⟩])
    (.seq (.region false [⟨⟨.mv (.slot 16), some 98, none⟩, []⟩])
    (.cond (.slot 98)
     (.region false [⟨⟨.mv (.slot 2), some 99, none⟩, []⟩,
       ⟨⟨.mv (.slot 4), some 100, none⟩, []⟩,
       ⟨⟨.mv (.slot 9), some 101, none⟩, []⟩,
       ⟨⟨.faddr 0 (.slot 6), some 102, none⟩, []⟩,
       ⟨⟨.load false 1 (.slot 102), some 103, none⟩, []⟩,
       ⟨⟨.bslice 1 [(.int .i64 (.ofNat 0))] [(0, 1, (.slot 103))] 1, some 104, none⟩, []⟩,
       ⟨⟨.mv (.slot 15), some 105, none⟩, []⟩,
       ⟨⟨.bslice 1 [.nils, .nils] [(0, 1, (.slot 104)), (1, 1, (.slot 105))] 2, some 106, none⟩, []⟩,
       ⟨⟨.call (.const (.func 42 [] [])) [(.slot 106)], some 107, none⟩, []⟩,
       ⟨⟨.build [(.int .u8 (.ofNat 0)), (.int .i32 (.ofNat 0)), .nils, .nils] [(0, 1, (.const (.int .u8 (.ofNat 2)))), (1, 1, (.slot 100)), (2, 1, (.slot 101)), (3, 1, (.slot 107))], some 108, none⟩, []⟩,
       ⟨⟨.bslice 4 [(.int .u8 (.ofNat 0)), (.int .i32 (.ofNat 0)), .nils, .nils] [(0, 4, (.slot 108))] 1, some 109, none⟩, []⟩,
       ⟨⟨.append 4 56 (.slot 99) (.slot 109), some 110, none⟩, []⟩,
       ⟨⟨.mv (.slot 110), some 2, none⟩, []⟩])
     .skip)))))))))))
    (.region false [⟨⟨.bin .add 3 .num (.slot 37) (.const (.int .i64 (.ofNat 1))), some 111, none⟩, []⟩,
      ⟨⟨.mv (.slot 111), some 37, none⟩, []⟩])))))))))
   (.region false [⟨⟨.bin .add 3 .num (.slot 28) (.const (.int .i64 (.ofNat 1))), some 112, none⟩, []⟩,
     ⟨⟨.mv (.slot 112), some 28, none⟩, []⟩])))))))
  (.seq (.region false [⟨⟨.mv (.slot 2), some 113, none⟩, []⟩,
    ⟨⟨.mv (.slot 113), some 2, none⟩, []⟩])
  .ret))),
  [.tmp 2]⟩
theorem xf56_ok : compFunc Tryz.prog Tryz.f56 = some xf56 := by kernel_rfl
/-- (*threshing/gates.finder).xors -/
def xf57 : XFunc := ⟨(.seq (.region false [⟨⟨.mv (.const .nils), some 2, none⟩, []⟩])
  (.seq (.seq (.region false [⟨⟨.mv (.slot 0), some 9, none⟩, []⟩,
    ⟨⟨.nilCheck (.slot 9), some 10, none⟩, []⟩,
    ⟨⟨.faddr 3 (.slot 10), some 11, none⟩, []⟩,
    ⟨⟨.load false 1 (.slot 11), some 12, none⟩, []⟩,
    ⟨⟨.len .slice (.slot 12), some 13, none⟩, []⟩,
    ⟨⟨.mv (.const (.int .i64 (.ofNat 0))), some 14, none⟩, []⟩])
  (.block 0 (.loop (.seq (.region false [⟨⟨.bin .lss 3 .num (.slot 14) (.slot 13), some 15, none⟩, []⟩])
   (.seq (.cond (.slot 15)
    .skip
    (.exit 0))
   (.seq (.block 1 (.seq (.region false [⟨⟨.iaddr 1 (.slot 12) (.slot 14), some 16, none⟩, []⟩,
     ⟨⟨.load false 1 (.slot 16), some 17, none⟩, []⟩,
     ⟨⟨.mv (.slot 17), some 4, none⟩, []⟩])
   (.seq (.region false [⟨⟨.mv (.slot 0), some 18, none⟩, []⟩,
     ⟨⟨.nilCheck (.slot 18), some 19, none⟩, []⟩,
     ⟨⟨.faddr 3 (.slot 19), some 20, none⟩, []⟩,
     ⟨⟨.load false 1 (.slot 20), some 21, none⟩, []⟩,
     ⟨⟨.len .slice (.slot 21), some 22, none⟩, []⟩,
     ⟨⟨.mv (.const (.int .i64 (.ofNat 0))), some 23, none⟩, []⟩])
   (.block 2 (.loop (.seq (.region false [⟨⟨.bin .lss 3 .num (.slot 23) (.slot 22), some 24, none⟩, []⟩])
    (.seq (.cond (.slot 24)
     .skip
     (.exit 2))
    (.seq (.block 3 (.seq (.region false [⟨⟨.iaddr 1 (.slot 21) (.slot 23), some 25, none⟩, []⟩,
      ⟨⟨.load false 1 (.slot 25), some 26, none⟩, []⟩,
      ⟨⟨.mv (.slot 26), some 6, none⟩, []⟩])
    (.seq (.seq (.region false [⟨⟨.mv (.slot 6), some 27, none⟩, []⟩,
      ⟨⟨.bin .lss 24 .num (.slot 27) (.const (.int .i32 (.ofNat 0))), some 28, none⟩, []⟩,
      ⟨⟨.mv (.slot 28), some 29, none⟩, []⟩,
      ⟨⟨.mv (.slot 6), some 30, some (29, false)⟩, []⟩,
      ⟨⟨.conv .i64 (.slot 30), some 31, some (29, false)⟩, []⟩,
      ⟨⟨.mv (.slot 4), some 32, some (29, false)⟩, []⟩,
      ⟨⟨.call (.const (.func 52 [] [])) [(.slot 32)], some 33, some (29, false)⟩, []⟩,
      ⟨⟨.bin .leq 3 .num (.slot 31) (.slot 33), some 34, some (29, false)⟩, []⟩,
      ⟨⟨.pick (.slot 29) (.const (.bool true)) (.slot 34), some 35, none⟩, []⟩])
    (.cond (.slot 35)
     (.exit 3)
     .skip))
    (.seq (.region true [⟨⟨.mv (.slot 0), some 37, none⟩, []⟩,
      ⟨⟨.mv (.slot 0), some 38, none⟩, []⟩,
      ⟨⟨.nilCheck (.slot 38), some 39, none⟩, []⟩,
      ⟨⟨.faddr 1 (.slot 39), some 40, none⟩, []⟩,
      ⟨⟨.load false 1 (.slot 40), some 41, none⟩, []⟩,
      ⟨⟨.un .neg (.slot 41), some 42, none⟩, []⟩,
      ⟨⟨.mv (.slot 4), some 43, none⟩, []⟩,
      ⟨⟨.mv (.slot 6), some 44, none⟩, []⟩,
      ⟨⟨.mv (.slot 0), some 46, none⟩, []⟩,
      ⟨⟨.nilCheck (.slot 46), some 47, none⟩, []⟩,
      ⟨⟨.faddr 1 (.slot 47), some 48, none⟩, []⟩,
      ⟨⟨.load false 1 (.slot 48), some 49, none⟩, []⟩,
      ⟨⟨.un .neg (.slot 49), some 50, none⟩, []⟩,
      ⟨⟨.mv (.slot 4), some 51, none⟩, []⟩,
      ⟨⟨.un .neg (.slot 51), some 52, none⟩, []⟩,
      ⟨⟨.mv (.slot 6), some 53, none⟩, []⟩,
      ⟨⟨.un .neg (.slot 53), some 54, none⟩, []⟩,
      ⟨⟨.mv (.slot 0), some 56, none⟩, []⟩,
      ⟨⟨.nilCheck (.slot 56), some 57, none⟩, []⟩,
      ⟨⟨.faddr 1 (.slot 57), some 58, none⟩, []⟩,
      ⟨⟨.load false 1 (.slot 58), some 59, none⟩, []⟩,
      ⟨⟨.mv (.slot 4), some 60, none⟩, []⟩,
      ⟨⟨.un .neg (.slot 60), some 61, none⟩, []⟩,
      ⟨⟨.mv (.slot 6), some 62, none⟩, []⟩,
      ⟨⟨.mv (.slot 0), some 64, none⟩, []⟩,
      ⟨⟨.nilCheck (.slot 64), some 65, none⟩, []⟩,
      ⟨⟨.faddr 1 (.slot 65), some 66, none⟩, []⟩,
      ⟨⟨.load false 1 (.slot 66), some 67, none⟩, []⟩,
      ⟨⟨.mv (.slot 4), some 68, none⟩, []⟩,
      ⟨⟨.mv (.slot 6), some 69, none⟩, []⟩,
      ⟨⟨.un .neg (.slot 69), some 70, none⟩, []⟩,
      ⟨⟨.bslice 1 [(.int .i32 (.ofNat 0)), (.int .i32 (.ofNat 0)), (.int .i32 (.ofNat 0))] [(0, 1, (.slot 42)), (1, 1, (.slot 43)), (2, 1, (.slot 44))] 3, some 45, none⟩, [⟨.load false 1 (.slot 48), some 49, none⟩, ⟨.load false 1 (.slot 58), some 59, none⟩, ⟨.load false 1 (.slot 66), some 67, none⟩]⟩,
      ⟨⟨.bslice 1 [(.int .i32 (.ofNat 0)), (.int .i32 (.ofNat 0)), (.int .i32 (.ofNat 0))] [(0, 1, (.slot 50)), (1, 1, (.slot 52)), (2, 1, (.slot 54))] 3, some 55, none⟩, [⟨.load false 1 (.slot 40), some 41, none⟩, ⟨.load false 1 (.slot 58), some 59, none⟩, ⟨.load false 1 (.slot 66), some 67, none⟩]⟩,
      ⟨⟨.bslice 1 [(.int .i32 (.ofNat 0)), (.int .i32 (.ofNat 0)), (.int .i32 (.ofNat 0))] [(0, 1, (.slot 59)), (1, 1, (.slot 61)), (2, 1, (.slot 62))] 3, some 63, none⟩, [⟨.load false 1 (.slot 40), some 41, none⟩, ⟨.load false 1 (.slot 48), some 49, none⟩, ⟨.load false 1 (.slot 66), some 67, none⟩]⟩,
      ⟨⟨.bslice 1 [(.int .i32 (.ofNat 0)), (.int .i32 (.ofNat 0)), (.int .i32 (.ofNat 0))] [(0, 1, (.slot 67)), (1, 1, (.slot 68)), (2, 1, (.slot 70))] 3, some 71, none⟩, [⟨.load false 1 (.slot 40), some 41, none⟩, ⟨.load false 1 (.slot 48), some 49, none⟩, ⟨.load false 1 (.slot 58), some 59, none⟩]⟩,
      ⟨⟨.bslice 1 [.nils, .nils, .nils, .nils] [(0, 1, (.slot 45)), (1, 1, (.slot 55)), (2, 1, (.slot 63)), (3, 1, (.slot 71))] 4, some 72, none⟩, []⟩,
      ⟨⟨.call (.const (.func 73 [] [])) [(.slot 37), (.slot 72)], some 73, none⟩, []⟩,
      ⟨⟨.mv (.slot 73), some 36, none⟩, []⟩,
      ⟨⟨.extract (.slot 36) 0, some 74, none⟩, []⟩,
      ⟨⟨.extract (.slot 36) 1, some 75, none⟩, []⟩,
      ⟨⟨.mv (.slot 74), some 7, none⟩, []⟩,
      ⟨⟨.mv (.slot 75), some 8, none⟩, []⟩])
    (.seq (.region false [⟨⟨.mv (.slot 8), some 76, none⟩, []⟩])
    (.cond (.slot 76)
     (.region false [⟨⟨.mv (.slot 2), some 77, none⟩, []⟩,
       ⟨⟨.mv (.slot 0), some 78, none⟩, []⟩,
       ⟨⟨.nilCheck (.slot 78), some 79, none⟩, []⟩,
       ⟨⟨.faddr 1 (.slot 79), some 80, none⟩, []⟩,
       ⟨⟨.load false 1 (.slot 80), some 81, none⟩, []⟩,
       ⟨⟨.mv (.slot 4), some 82, none⟩, []⟩,
       ⟨⟨.mv (.slot 6), some 83, none⟩, []⟩,
       ⟨⟨.bslice 1 [(.int .i32 (.ofNat 0)), (.int .i32 (.ofNat 0))] [(0, 1, (.slot 82)), (1, 1, (.slot 83))] 2, some 84, none⟩, []⟩,
       ⟨⟨.mv (.slot 7), some 85, none⟩, []⟩,
       ⟨⟨.build [(.int .u8 (.ofNat 0)), (.int .i32 (.ofNat 0)), .nils, .nils] [(0, 1, (.const (.int .u8 (.ofNat 3)))), (1, 1, (.slot 81)), (2, 1, (.slot 84)), (3, 1, (.slot 85))], some 86, none⟩, []⟩,
       ⟨⟨.bslice 4 [(.int .u8 (.ofNat 0)), (.int .i32 (.ofNat 0)), .nils, .nils] [(0, 4, (.slot 86))] 1, some 87, none⟩, []⟩,
       ⟨⟨.append 4 56 (.slot 77) (.slot 87), some 88, none⟩, []⟩,
       ⟨⟨.mv (.slot 88), some 2, none⟩, []⟩])
     .skip))))))
    (.region false [⟨⟨.bin .add 3 .num (.slot 23) (.const (.int .i64 (.ofNat 1))), some 89, none⟩, []⟩,
      ⟨⟨.mv (.slot 89), some 23, none⟩, []⟩])))))))))
   (.region false [⟨⟨.bin .add 3 .num (.slot 14) (.const (.int .i64 (.ofNat 1))), some 90, none⟩, []⟩,
     ⟨⟨.mv (.slot 90), some 14, none⟩, []⟩])))))))
  (.seq (.region false [⟨⟨.mv (.slot 2), some 91, none⟩, []⟩,
    ⟨⟨.mv (.slot 91), some 2, none⟩, []⟩])
  .ret))),
  [.tmp 2]⟩
theorem xf57_ok : compFunc Tryz.prog Tryz.f57 = some xf57 := by kernel_rfl
/-- (*threshing/gates.finder).ites -/
def xf58 : XFunc := ⟨(.seq (.region false [⟨⟨.mv (.const .nils), some 2, none⟩, []⟩])
  (.seq (.seq (.region false [⟨⟨.mv (.slot 0), some 13, none⟩, []⟩,
    ⟨⟨.nilCheck (.slot 13), some 14, none⟩, []⟩,
    ⟨⟨.faddr 3 (.slot 14), some 15, none⟩, []⟩,
    ⟨⟨.load false 1 (.slot 15), some 16, none⟩, []⟩,
    ⟨⟨.len .slice (.slot 16), some 17, none⟩, []⟩,
    ⟨⟨.mv (.const (.int .i64 (.ofNat 0))), some 18, none⟩, []⟩])
  (.block 0 (.loop (.seq (.region false [⟨⟨.bin .lss 3 .num (.slot 18) (.slot 17), some 19, none⟩, []⟩])
   (.seq (.cond (.slot 19)
    .skip
    (.exit 0))
   (.seq (.block 1 (.seq (.region false [⟨⟨.iaddr 1 (.slot 16) (.slot 18), some 20, none⟩, []⟩,
     ⟨⟨.load false 1 (.slot 20), some 21, none⟩, []⟩,
     ⟨⟨.mv (.slot 21), some 4, none⟩, []⟩])
   (.seq (.region false [⟨⟨.mv (.slot 0), some 22, none⟩, []⟩,
     ⟨⟨.nilCheck (.slot 22), some 23, none⟩, []⟩,
     ⟨⟨.faddr 3 (.slot 23), some 24, none⟩, []⟩,
     ⟨⟨.load false 1 (.slot 24), some 25, none⟩, []⟩,
     ⟨⟨.len .slice (.slot 25), some 26, none⟩, []⟩,
     ⟨⟨.mv (.const (.int .i64 (.ofNat 0))), some 27, none⟩, []⟩])
   (.block 2 (.loop (.seq (.region false [⟨⟨.bin .lss 3 .num (.slot 27) (.slot 26), some 28, none⟩, []⟩])
    (.seq (.cond (.slot 28)
     .skip
     (.exit 2))
    (.seq (.block 3 (.seq (.region false [⟨⟨.iaddr 1 (.slot 25) (.slot 27), some 29, none⟩, []⟩,
      ⟨⟨.load false 1 (.slot 29), some 30, none⟩, []⟩,
      ⟨⟨.mv (.slot 30), some 6, none⟩, []⟩])
    (.seq (.seq (.region false [⟨⟨.mv (.slot 0), some 32, none⟩, []⟩,
      ⟨⟨.mv (.slot 0), some 33, none⟩, []⟩,
      ⟨⟨.nilCheck (.slot 33), some 34, none⟩, []⟩,
      ⟨⟨.faddr 1 (.slot 34), some 35, none⟩, []⟩,
      ⟨⟨.load false 1 (.slot 35), some 36, none⟩, []⟩,
      ⟨⟨.un .neg (.slot 36), some 37, none⟩, []⟩,
      ⟨⟨.mv (.slot 4), some 38, none⟩, []⟩,
      ⟨⟨.un .neg (.slot 38), some 39, none⟩, []⟩,
      ⟨⟨.mv (.slot 6), some 40, none⟩, []⟩,
      ⟨⟨.bslice 1 [(.int .i32 (.ofNat 0)), (.int .i32 (.ofNat 0)), (.int .i32 (.ofNat 0))] [(0, 1, (.slot 37)), (1, 1, (.slot 39)), (2, 1, (.slot 40))] 3, some 41, none⟩, []⟩,
      ⟨⟨.bslice 1 [.nils] [(0, 1, (.slot 41))] 1, some 42, none⟩, []⟩,
      ⟨⟨.call (.const (.func 73 [] [])) [(.slot 32), (.slot 42)], some 43, none⟩, []⟩,
      ⟨⟨.mv (.slot 43), some 31, none⟩, []⟩,
      ⟨⟨.extract (.slot 31) 0, some 44, none⟩, []⟩,
      ⟨⟨.extract (.slot 31) 1, some 45, none⟩, []⟩,
      ⟨⟨.mv (.slot 44), some 7, none⟩, []⟩,
      ⟨⟨.mv (.slot 45), some 8, none⟩, []⟩])
    (.seq (.region false [⟨⟨.mv (.slot 4), some 46, none⟩, []⟩,
      ⟨⟨.bin .lss 24 .num (.slot 46) (.const (.int .i32 (.ofNat 0))), some 47, none⟩, []⟩,
      ⟨⟨.mv (.slot 47), some 48, none⟩, []⟩,
      ⟨⟨.mv (.slot 6), some 49, some (48, false)⟩, []⟩,
      ⟨⟨.call (.const (.func 52 [] [])) [(.slot 49)], some 50, some (48, false)⟩, []⟩,
      ⟨⟨.mv (.slot 4), some 51, some (48, false)⟩, []⟩,
      ⟨⟨.conv .i64 (.slot 51), some 52, some (48, false)⟩, []⟩,
      ⟨⟨.bin .eql 3 .num (.slot 50) (.slot 52), some 53, some (48, false)⟩, []⟩,
      ⟨⟨.pick (.slot 48) (.const (.bool true)) (.slot 53), some 54, none⟩, []⟩,
      ⟨⟨.mv (.slot 54), some 55, none⟩, []⟩,
      ⟨⟨.mv (.slot 8), some 56, some (55, false)⟩, []⟩,
      ⟨⟨.un .not (.slot 56), some 57, some (55, false)⟩, []⟩,
      ⟨⟨.pick (.slot 55) (.const (.bool true)) (.slot 57), some 58, none⟩, []⟩])
    (.cond (.slot 58)
     (.exit 3)
     .skip)))
    (.seq (.region false [⟨⟨.mv (.slot 0), some 59, none⟩, []⟩,
      ⟨⟨.nilCheck (.slot 59), some 60, none⟩, []⟩,
      ⟨⟨.faddr 3 (.slot 60), some 61, none⟩, []⟩,
      ⟨⟨.load false 1 (.slot 61), some 62, none⟩, []⟩,
      ⟨⟨.len .slice (.slot 62), some 63, none⟩, []⟩,
      ⟨⟨.mv (.const (.int .i64 (.ofNat 0))), some 64, none⟩, []⟩])
    (.block 4 (.loop (.seq (.region false [⟨⟨.bin .lss 3 .num (.slot 64) (.slot 63), some 65, none⟩, []⟩])
     (.seq (.cond (.slot 65)
      .skip
      (.exit 4))
     (.seq (.block 5 (.seq (.region false [⟨⟨.iaddr 1 (.slot 62) (.slot 64), some 66, none⟩, []⟩,
       ⟨⟨.load false 1 (.slot 66), some 67, none⟩, []⟩,
       ⟨⟨.mv (.slot 67), some 10, none⟩, []⟩])
     (.seq (.seq (.region false [⟨⟨.mv (.slot 10), some 68, none⟩, []⟩,
       ⟨⟨.call (.const (.func 52 [] [])) [(.slot 68)], some 69, none⟩, []⟩,
       ⟨⟨.mv (.slot 4), some 70, none⟩, []⟩,
       ⟨⟨.conv .i64 (.slot 70), some 71, none⟩, []⟩,
       ⟨⟨.bin .eql 3 .num (.slot 69) (.slot 71), some 72, none⟩, []⟩,
       ⟨⟨.mv (.slot 72), some 73, none⟩, []⟩,
       ⟨⟨.mv (.slot 10), some 74, some (73, false)⟩, []⟩,
       ⟨⟨.call (.const (.func 52 [] [])) [(.slot 74)], some 75, some (73, false)⟩, []⟩,
       ⟨⟨.mv (.slot 6), some 76, some (73, false)⟩, []⟩,
       ⟨⟨.call (.const (.func 52 [] [])) [(.slot 76)], some 77, some (73, false)⟩, []⟩,
       ⟨⟨.bin .eql 3 .num (.slot 75) (.slot 77), some 78, some (73, false)⟩, []⟩,
       ⟨⟨.pick (.slot 73) (.const (.bool true)) (.slot 78), some 79, none⟩, []⟩])
     (.cond (.slot 79)
      (.exit 5)
      .skip))
     (.seq (.region true [⟨⟨.mv (.slot 0), some 81, none⟩, []⟩,
       ⟨⟨.mv (.slot 0), some 82, none⟩, []⟩,
       ⟨⟨.nilCheck (.slot 82), some 83, none⟩, []⟩,
       ⟨⟨.faddr 1 (.slot 83), some 84, none⟩, []⟩,
       ⟨⟨.load false 1 (.slot 84), some 85, none⟩, []⟩,
       ⟨⟨.un .neg (.slot 85), some 86, none⟩, []⟩,
       ⟨⟨.mv (.slot 4), some 87, none⟩, []⟩,
       ⟨⟨.un .neg (.slot 87), some 88, none⟩, []⟩,
       ⟨⟨.mv (.slot 6), some 89, none⟩, []⟩,
       ⟨⟨.mv (.slot 0), some 91, none⟩, []⟩,
       ⟨⟨.nilCheck (.slot 91), some 92, none⟩, []⟩,
       ⟨⟨.faddr 1 (.slot 92), some 93, none⟩, []⟩,
       ⟨⟨.load false 1 (.slot 93), some 94, none⟩, []⟩,
       ⟨⟨.un .neg (.slot 94), some 95, none⟩, []⟩,
       ⟨⟨.mv (.slot 4), some 96, none⟩, []⟩,
       ⟨⟨.mv (.slot 10), some 97, none⟩, []⟩,
       ⟨⟨.mv (.slot 0), some 99, none⟩, []⟩,
       ⟨⟨.nilCheck (.slot 99), some 100, none⟩, []⟩,
       ⟨⟨.faddr 1 (.slot 100), some 101, none⟩, []⟩,
       ⟨⟨.load false 1 (.slot 101), some 102, none⟩, []⟩,
       ⟨⟨.mv (.slot 4), some 103, none⟩, []⟩,
       ⟨⟨.un .neg (.slot 103), some 104, none⟩, []⟩,
       ⟨⟨.mv (.slot 6), some 105, none⟩, []⟩,
       ⟨⟨.un .neg (.slot 105), some 106, none⟩, []⟩,
       ⟨⟨.mv (.slot 0), some 108, none⟩, []⟩,
       ⟨⟨.nilCheck (.slot 108), some 109, none⟩, []⟩,
       ⟨⟨.faddr 1 (.slot 109), some 110, none⟩, []⟩,
       ⟨⟨.load false 1 (.slot 110), some 111, none⟩, []⟩,
       ⟨⟨.mv (.slot 4), some 112, none⟩, []⟩,
       ⟨⟨.mv (.slot 10), some 113, none⟩, []⟩,
       ⟨⟨.un .neg (.slot 113), some 114, none⟩, []⟩,
       ⟨⟨.bslice 1 [(.int .i32 (.ofNat 0)), (.int .i32 (.ofNat 0)), (.int .i32 (.ofNat 0))] [(0, 1, (.slot 86)), (1, 1, (.slot 88)), (2, 1, (.slot 89))] 3, some 90, none⟩, [⟨.load false 1 (.slot 93), some 94, none⟩, ⟨.load false 1 (.slot 101), some 102, none⟩, ⟨.load false 1 (.slot 110), some 111, none⟩]⟩,
       ⟨⟨.bslice 1 [(.int .i32 (.ofNat 0)), (.int .i32 (.ofNat 0)), (.int .i32 (.ofNat 0))] [(0, 1, (.slot 95)), (1, 1, (.slot 96)), (2, 1, (.slot 97))] 3, some 98, none⟩, [⟨.load false 1 (.slot 84), some 85, none⟩, ⟨.load false 1 (.slot 101), some 102, none⟩, ⟨.load false 1 (.slot 110), some 111, none⟩]⟩,
       ⟨⟨.bslice 1 [(.int .i32 (.ofNat 0)), (.int .i32 (.ofNat 0)), (.int .i32 (.ofNat 0))] [(0, 1, (.slot 102)), (1, 1, (.slot 104)), (2, 1, (.slot 106))] 3, some 107, none⟩, [⟨.load false 1 (.slot 84), some 85, none⟩, ⟨.load false 1 (.slot 93), some 94, none⟩, ⟨.load false 1 (.slot 110), some 111, none⟩]⟩,
       ⟨⟨.bslice 1 [(.int .i32 (.ofNat 0)), (.int .i32 (.ofNat 0)), (.int .i32 (.ofNat 0))] [(0, 1, (.slot 111)), (1, 1, (.slot 112)), (2, 1, (.slot 114))] 3, some 115, none⟩, [⟨.load false 1 (.slot 84), some 85, none⟩, ⟨.load false 1 (.slot 93), some 94, none⟩, ⟨.load false 1 (.slot 101), some 102, none⟩]⟩,
       ⟨⟨.bslice 1 [.nils, .nils, .nils, .nils] [(0, 1, (.slot 90)), (1, 1, (.slot 98)), (2, 1, (.slot 107)), (3, 1, (.slot 115))] 4, some 116, none⟩, []⟩,
       ⟨⟨.call (.const (.func 73 [] [])) [(.slot 81), (.slot 116)], some 117, none⟩, []⟩,
       ⟨⟨.mv (.slot 117), some 80, none⟩, []⟩,
       ⟨⟨.extract (.slot 80) 0, some 118, none⟩, []⟩,
       ⟨⟨.extract (.slot 80) 1, some 119, none⟩, []⟩,
       ⟨⟨.mv (.slot 118), some 11, none⟩, []⟩,
       ⟨⟨.mv (.slot 119), some 12, none⟩, []⟩])
     (.seq (.region false [⟨⟨.mv (.slot 12), some 120, none⟩, []⟩])
     (.cond (.slot 120)
      (.region false [⟨⟨.mv (.slot 2), some 121, none⟩, []⟩,
        ⟨⟨.mv (.slot 0), some 122, none⟩, []⟩,
        ⟨⟨.nilCheck (.slot 122), some 123, none⟩, []⟩,
        ⟨⟨.faddr 1 (.slot 123), some 124, none⟩, []⟩,
        ⟨⟨.load false 1 (.slot 124), some 125, none⟩, []⟩,
        ⟨⟨.mv (.slot 4), some 126, none⟩, []⟩,
        ⟨⟨.mv (.slot 6), some 127, none⟩, []⟩,
        ⟨⟨.mv (.slot 10), some 128, none⟩, []⟩,
        ⟨⟨.bslice 1 [(.int .i32 (.ofNat 0)), (.int .i32 (.ofNat 0)), (.int .i32 (.ofNat 0))] [(0, 1, (.slot 126)), (1, 1, (.slot 127)), (2, 1, (.slot 128))] 3, some 129, none⟩, []⟩,
        ⟨⟨.mv (.slot 11), some 130, none⟩, []⟩,
        ⟨⟨.build [(.int .u8 (.ofNat 0)), (.int .i32 (.ofNat 0)), .nils, .nils] [(0, 1, (.const (.int .u8 (.ofNat 4)))), (1, 1, (.slot 125)), (2, 1, (.slot 129)), (3, 1, (.slot 130))], some 131, none⟩, []⟩,
        ⟨⟨.bslice 4 [(.int .u8 (.ofNat 0)), (.int .i32 (.ofNat 0)), .nils, .nils] [(0, 4, (.slot 131))] 1, some 132, none⟩, []⟩,
        ⟨⟨.append 4 56 (.slot 121) (.slot 132), some 133, none⟩, []⟩,
        ⟨⟨.mv (.slot 133), some 2, none⟩, []⟩])
      .skip))))))
     (.region false [⟨⟨.bin .add 3 .num (.slot 64) (.const (.int .i64 (.ofNat 1))), some 134, none⟩, []⟩,
       ⟨⟨.mv (.slot 134), some 64, none⟩, []⟩]))))))))))
    (.region false [⟨⟨.bin .add 3 .num (.slot 27) (.const (.int .i64 (.ofNat 1))), some 135, none⟩, []⟩,
      ⟨⟨.mv (.slot 135), some 27, none⟩, []⟩])))))))))
   (.region false [⟨⟨.bin .add 3 .num (.slot 18) (.const (.int .i64 (.ofNat 1))), some 136, none⟩, []⟩,
     ⟨⟨.mv (.slot 136), some 18, none⟩, []⟩])))))))
  (.seq (.region false [⟨⟨.mv (.slot 2), some 137, none⟩, []⟩,
    ⟨⟨.mv (.slot 137), some 2, none⟩, []⟩])
  .ret))),
  [.tmp 2]⟩
theorem xf58_ok : compFunc Tryz.prog Tryz.f58 = some xf58 := by kernel_rfl
/-- slices.IndexFunc[[]threshing/api.Entry,threshing/api.Entry] -/
def xf59 : XFunc := ⟨(.seq (.region false [⟨⟨.mv (.const (.int .i64 (.ofNat 0))), some 4, none⟩, []⟩])
  (.seq (.seq (.region false [⟨⟨.mv (.slot 0), some 6, none⟩, []⟩,
    ⟨⟨.len .slice (.slot 6), some 7, none⟩, []⟩,
    ⟨⟨.mv (.const (.int .i64 (.ofNat 0))), some 8, none⟩, []⟩])
  (.block 0 (.loop (.seq (.region false [⟨⟨.bin .lss 3 .num (.slot 8) (.slot 7), some 9, none⟩, []⟩])
   (.seq (.cond (.slot 9)
    .skip
    (.exit 0))
   (.seq (.block 1 (.seq (.region false [⟨⟨.mv (.slot 8), some 10, none⟩, []⟩,
     ⟨⟨.mv (.slot 10), some 5, none⟩, []⟩])
   (.seq (.region false [⟨⟨.mv (.slot 1), some 11, none⟩, []⟩,
     ⟨⟨.mv (.slot 0), some 12, none⟩, []⟩,
     ⟨⟨.mv (.slot 5), some 13, none⟩, []⟩,
     ⟨⟨.iaddr 3 (.slot 12) (.slot 13), some 14, none⟩, []⟩,
     ⟨⟨.load true 3 (.slot 14), some 15, none⟩, []⟩,
     ⟨⟨.call (.slot 11) [(.slot 15)], some 16, none⟩, []⟩])
   (.cond (.slot 16)
    (.seq (.region false [⟨⟨.mv (.slot 5), some 17, none⟩, []⟩,
      ⟨⟨.mv (.slot 17), some 4, none⟩, []⟩])
    .ret)
    .skip))))
   (.region false [⟨⟨.bin .add 3 .num (.slot 8) (.const (.int .i64 (.ofNat 1))), some 18, none⟩, []⟩,
     ⟨⟨.mv (.slot 18), some 8, none⟩, []⟩])))))))
  (.seq (.region false [⟨⟨.mv (.const (.int .i64 (.negSucc 0))), some 4, none⟩, []⟩])
  .ret))),
  [.tmp 4]⟩
theorem xf59_ok : compFunc Tryz.prog Tryz.f59 = some xf59 := by kernel_rfl
/-- slices.Index[threshing/api.Clause,threshing/api.Lit] -/
def xf60 : XFunc := ⟨(.seq (.region false [⟨⟨.mv (.const (.int .i64 (.ofNat 0))), some 4, none⟩, []⟩])
  (.seq (.seq (.region false [⟨⟨.mv (.slot 0), some 6, none⟩, []⟩,
    ⟨⟨.len .slice (.slot 6), some 7, none⟩, []⟩,
    ⟨⟨.mv (.const (.int .i64 (.ofNat 0))), some 8, none⟩, []⟩])
  (.block 0 (.loop (.seq (.region false [⟨⟨.bin .lss 3 .num (.slot 8) (.slot 7), some 9, none⟩, []⟩])
   (.seq (.cond (.slot 9)
    .skip
    (.exit 0))
   (.seq (.block 1 (.seq (.region false [⟨⟨.mv (.slot 8), some 10, none⟩, []⟩,
     ⟨⟨.mv (.slot 10), some 5, none⟩, []⟩])
   (.seq (.region false [⟨⟨.mv (.slot 1), some 11, none⟩, []⟩,
     ⟨⟨.mv (.slot 0), some 12, none⟩, []⟩,
     ⟨⟨.mv (.slot 5), some 13, none⟩, []⟩,
     ⟨⟨.iaddr 1 (.slot 12) (.slot 13), some 14, none⟩, []⟩,
     ⟨⟨.load false 1 (.slot 14), some 15, none⟩, []⟩,
     ⟨⟨.bin .eql 24 .num (.slot 11) (.slot 15), some 16, none⟩, []⟩])
   (.cond (.slot 16)
    (.seq (.region false [⟨⟨.mv (.slot 5), some 17, none⟩, []⟩,
      ⟨⟨.mv (.slot 17), some 4, none⟩, []⟩])
    .ret)
    .skip))))
   (.region false [⟨⟨.bin .add 3 .num (.slot 8) (.const (.int .i64 (.ofNat 1))), some 18, none⟩, []⟩,
     ⟨⟨.mv (.slot 18), some 8, none⟩, []⟩])))))))
  (.seq (.region false [⟨⟨.mv (.const (.int .i64 (.negSucc 0))), some 4, none⟩, []⟩])
  .ret))),
  [.tmp 4]⟩
theorem xf60_ok : compFunc Tryz.prog Tryz.f60 = some xf60 := by kernel_rfl
/-- (*threshing/elim.sides).resolvents$1 -/
def xf61 : XFunc := ⟨(.seq (.region false [⟨⟨.load false 1 (.slot 1), some 10, none⟩, []⟩,
    ⟨⟨.nilCheck (.slot 10), some 11, none⟩, []⟩,
    ⟨⟨.faddr 2 (.slot 11), some 12, none⟩, []⟩,
    ⟨⟨.load false 1 (.slot 12), some 13, none⟩, []⟩,
    ⟨⟨.len .slice (.slot 13), some 14, none⟩, []⟩,
    ⟨⟨.mv (.const (.int .i64 (.ofNat 0))), some 15, none⟩, []⟩])
  (.block 0 (.loop (.seq (.region false [⟨⟨.bin .lss 3 .num (.slot 15) (.slot 14), some 16, none⟩, []⟩])
   (.seq (.cond (.slot 16)
    .skip
    (.exit 0))
   (.seq (.block 1 (.seq (.region false [⟨⟨.iaddr 3 (.slot 13) (.slot 15), some 17, none⟩, []⟩,
     ⟨⟨.load true 3 (.slot 17), some 18, none⟩, []⟩,
     ⟨⟨.alloc [(.int .i64 (.ofNat 0)), .nils, (.bool false)], some 4, none⟩, []⟩,
     ⟨⟨.store 3 (.slot 4) (.slot 18), none, none⟩, []⟩])
   (.seq (.region false [⟨⟨.load false 1 (.slot 1), some 19, none⟩, []⟩,
     ⟨⟨.nilCheck (.slot 19), some 20, none⟩, []⟩,
     ⟨⟨.faddr 3 (.slot 20), some 21, none⟩, []⟩,
     ⟨⟨.load false 1 (.slot 21), some 22, none⟩, []⟩,
     ⟨⟨.len .slice (.slot 22), some 23, none⟩, []⟩,
     ⟨⟨.mv (.const (.int .i64 (.ofNat 0))), some 24, none⟩, []⟩])
   (.block 2 (.loop (.seq (.region false [⟨⟨.bin .lss 3 .num (.slot 24) (.slot 23), some 25, none⟩, []⟩])
    (.seq (.cond (.slot 25)
     .skip
     (.exit 2))
    (.seq (.block 3 (.seq (.region false [⟨⟨.iaddr 3 (.slot 22) (.slot 24), some 26, none⟩, []⟩,
      ⟨⟨.load true 3 (.slot 26), some 27, none⟩, []⟩,
      ⟨⟨.alloc [(.int .i64 (.ofNat 0)), .nils, (.bool false)], some 6, none⟩, []⟩,
      ⟨⟨.store 3 (.slot 6) (.slot 27), none, none⟩, []⟩])
    (.seq (.seq (.region true [⟨⟨.load false 1 (.slot 1), some 28, none⟩, []⟩,
      ⟨⟨.nilCheck (.slot 28), some 29, none⟩, []⟩,
      ⟨⟨.faddr 4 (.slot 29), some 30, none⟩, []⟩,
      ⟨⟨.load false 1 (.slot 30), some 31, none⟩, []⟩,
      ⟨⟨.bin .neq 37 .slice (.slot 31) (.const .nils), some 32, none⟩, []⟩,
      ⟨⟨.mv (.slot 32), some 33, none⟩, []⟩,
      ⟨⟨.load false 1 (.slot 1), some 34, some (33, true)⟩, []⟩,
      ⟨⟨.nilCheck (.slot 34), some 35, some (33, true)⟩, []⟩,
      ⟨⟨.faddr 4 (.slot 35), some 36, some (33, true)⟩, []⟩,
      ⟨⟨.load false 1 (.slot 36), some 37, some (33, true)⟩, []⟩,
      ⟨⟨.faddr 0 (.slot 4), some 38, some (33, true)⟩, []⟩,
      ⟨⟨.load false 1 (.slot 38), some 39, some (33, true)⟩, []⟩,
      ⟨⟨.load false 1 (.slot 1), some 41, some (33, true)⟩, []⟩,
      ⟨⟨.nilCheck (.slot 41), some 42, some (33, true)⟩, []⟩,
      ⟨⟨.faddr 4 (.slot 42), some 43, some (33, true)⟩, []⟩,
      ⟨⟨.load false 1 (.slot 43), some 44, some (33, true)⟩, []⟩,
      ⟨⟨.faddr 0 (.slot 6), some 45, some (33, true)⟩, []⟩,
      ⟨⟨.load false 1 (.slot 45), some 46, some (33, true)⟩, []⟩,
      ⟨⟨.call (.const (.func 62 [] [])) [(.slot 37), (.slot 39)], some 40, some (33, true)⟩, [⟨.load false 1 (.slot 1), some 41, some (33, true)⟩, ⟨.load false 1 (.slot 43), some 44, some (33, true)⟩, ⟨.load false 1 (.slot 45), some 46, some (33, true)⟩]⟩,
      ⟨⟨.call (.const (.func 62 [] [])) [(.slot 44), (.slot 46)], some 47, some (33, true)⟩, []⟩,
      ⟨⟨.bin .eql 4 .bool (.slot 40) (.slot 47), some 48, some (33, true)⟩, []⟩,
      ⟨⟨.pick (.slot 33) (.slot 48) (.const (.bool false)), some 49, none⟩, []⟩])
    (.cond (.slot 49)
     (.exit 3)
     .skip))
    (.seq (.region true [⟨⟨.faddr 1 (.slot 4), some 51, none⟩, []⟩,
      ⟨⟨.load false 1 (.slot 51), some 52, none⟩, []⟩,
      ⟨⟨.faddr 1 (.slot 6), some 53, none⟩, []⟩,
      ⟨⟨.load false 1 (.slot 53), some 54, none⟩, []⟩,
      ⟨⟨.load false 1 (.slot 1), some 55, none⟩, []⟩,
      ⟨⟨.nilCheck (.slot 55), some 56, none⟩, []⟩,
      ⟨⟨.faddr 1 (.slot 56), some 57, none⟩, []⟩,
      ⟨⟨.load false 1 (.slot 57), some 58, none⟩, []⟩,
      ⟨⟨.conv .i64 (.slot 58), some 59, none⟩, []⟩,
      ⟨⟨.call (.const (.func 63 [] [])) [(.slot 52), (.slot 54), (.slot 59)], some 60, none⟩, []⟩,
      ⟨⟨.mv (.slot 60), some 50, none⟩, []⟩,
      ⟨⟨.extract (.slot 50) 0, some 61, none⟩, []⟩,
      ⟨⟨.extract (.slot 50) 1, some 62, none⟩, []⟩,
      ⟨⟨.extract (.slot 50) 2, some 63, none⟩, []⟩,
      ⟨⟨.mv (.slot 61), some 7, none⟩, []⟩,
      ⟨⟨.mv (.slot 62), some 8, none⟩, []⟩,
      ⟨⟨.mv (.slot 63), some 9, none⟩, []⟩])
    (.seq (.region false [⟨⟨.mv (.slot 9), some 64, none⟩, []⟩,
      ⟨⟨.bin .eql 27 .num (.slot 64) (.const (.int .i64 (.ofNat 0))), some 65, none⟩, []⟩,
      ⟨⟨.mv (.slot 65), some 66, none⟩, []⟩,
      ⟨⟨.mv (.slot 8), some 67, some (66, true)⟩, []⟩,
      ⟨⟨.un .not (.slot 67), some 68, some (66, true)⟩, []⟩,
      ⟨⟨.pick (.slot 66) (.slot 68) (.const (.bool false)), some 69, none⟩, []⟩,
      ⟨⟨.mv (.slot 69), some 70, none⟩, []⟩,
      ⟨⟨.mv (.slot 0), some 71, some (70, true)⟩, []⟩,
      ⟨⟨.mv (.slot 7), some 72, some (70, true)⟩, []⟩,
      ⟨⟨.faddr 0 (.slot 4), some 73, some (70, true)⟩, []⟩,
      ⟨⟨.load false 1 (.slot 73), some 74, some (70, true)⟩, []⟩,
      ⟨⟨.faddr 0 (.slot 6), some 75, some (70, true)⟩, []⟩,
      ⟨⟨.load false 1 (.slot 75), some 76, some (70, true)⟩, []⟩,
      ⟨⟨.bslice 1 [(.int .i64 (.ofNat 0)), (.int .i64 (.ofNat 0))] [(0, 1, (.slot 74)), (1, 1, (.slot 76))] 2, some 77, some (70, true)⟩, []⟩,
      ⟨⟨.call (.slot 71) [(.slot 72), (.slot 77)], some 78, some (70, true)⟩, []⟩,
      ⟨⟨.un .not (.slot 78), some 79, some (70, true)⟩, []⟩,
      ⟨⟨.pick (.slot 70) (.slot 79) (.const (.bool false)), some 80, none⟩, []⟩])
    (.cond (.slot 80)
     .ret
     .skip))))))
    (.region false [⟨⟨.bin .add 3 .num (.slot 24) (.const (.int .i64 (.ofNat 1))), some 81, none⟩, []⟩,
      ⟨⟨.mv (.slot 81), some 24, none⟩, []⟩])))))))))
   (.region false [⟨⟨.bin .add 3 .num (.slot 15) (.const (.int .i64 (.ofNat 1))), some 82, none⟩, []⟩,
     ⟨⟨.mv (.slot 82), some 15, none⟩, []⟩]))))))),
  []⟩
theorem xf61_ok : compFunc Tryz.prog Tryz.f61 = some xf61 := by kernel_rfl
/-- slices.Contains[[]int64,int64] -/
def xf62 : XFunc := ⟨(.seq (.region false [⟨⟨.mv (.const (.bool false)), some 4, none⟩, []⟩])
  (.seq (.region false [⟨⟨.mv (.slot 0), some 5, none⟩, []⟩,
    ⟨⟨.mv (.slot 1), some 6, none⟩, []⟩,
    ⟨⟨.call (.const (.func 75 [] [])) [(.slot 5), (.slot 6)], some 7, none⟩, []⟩,
    ⟨⟨.bin .geq 3 .num (.slot 7) (.const (.int .i64 (.ofNat 0))), some 8, none⟩, []⟩,
    ⟨⟨.mv (.slot 8), some 4, none⟩, []⟩])
  .ret)),
  [.tmp 4]⟩
theorem xf62_ok : compFunc Tryz.prog Tryz.f62 = some xf62 := by kernel_rfl
/-- threshing/cnf.Resolve -/
def xf63 : XFunc := ⟨(.seq (.region false [⟨⟨.mv (.const .nils), some 6, none⟩, []⟩,
    ⟨⟨.mv (.const (.bool false)), some 7, none⟩, []⟩,
    ⟨⟨.mv (.const (.int .i64 (.ofNat 0))), some 8, none⟩, []⟩])
  (.seq (.seq (.region false [⟨⟨.mv (.slot 2), some 11, none⟩, []⟩,
    ⟨⟨.bin .lss 3 .num (.slot 11) (.const (.int .i64 (.ofNat 1))), some 12, none⟩, []⟩,
    ⟨⟨.mv (.slot 12), some 13, none⟩, []⟩,
    ⟨⟨.mv (.slot 2), some 14, some (13, false)⟩, []⟩,
    ⟨⟨.bin .gtr 3 .num (.slot 14) (.const (.int .i64 (.ofNat 2147483647))), some 15, some (13, false)⟩, []⟩,
    ⟨⟨.pick (.slot 13) (.const (.bool true)) (.slot 15), some 16, none⟩, []⟩,
    ⟨⟨.mv (.slot 16), some 17, none⟩, []⟩,
    ⟨⟨.mv (.slot 0), some 18, some (17, false)⟩, []⟩,
    ⟨⟨.mv (.slot 2), some 19, some (17, false)⟩, []⟩,
    ⟨⟨.conv .i32 (.slot 19), some 20, some (17, false)⟩, []⟩,
    ⟨⟨.call (.const (.func 40 [] [])) [(.slot 18), (.slot 20)], some 21, some (17, false)⟩, []⟩,
    ⟨⟨.un .not (.slot 21), some 22, some (17, false)⟩, []⟩,
    ⟨⟨.pick (.slot 17) (.const (.bool true)) (.slot 22), some 23, none⟩, []⟩,
    ⟨⟨.mv (.slot 23), some 24, none⟩, []⟩,
    ⟨⟨.mv (.slot 1), some 25, some (24, false)⟩, []⟩,
    ⟨⟨.mv (.slot 2), some 26, some (24, false)⟩, []⟩,
    ⟨⟨.conv .i32 (.slot 26), some 27, some (24, false)⟩, []⟩,
    ⟨⟨.un .neg (.slot 27), some 28, some (24, false)⟩, []⟩,
    ⟨⟨.call (.const (.func 40 [] [])) [(.slot 25), (.slot 28)], some 29, some (24, false)⟩, []⟩,
    ⟨⟨.un .not (.slot 29), some 30, some (24, false)⟩, []⟩,
    ⟨⟨.pick (.slot 24) (.const (.bool true)) (.slot 30), some 31, none⟩, []⟩])
  (.cond (.slot 31)
   (.seq (.region false [⟨⟨.mv (.const .nils), some 6, none⟩, []⟩,
     ⟨⟨.mv (.const (.bool false)), some 7, none⟩, []⟩,
     ⟨⟨.mv (.const (.int .i64 (.ofNat 2))), some 8, none⟩, []⟩])
   .ret)
   .skip))
  (.seq (.region false [⟨⟨.mv (.slot 0), some 33, none⟩, []⟩,
    ⟨⟨.mv (.slot 2), some 34, none⟩, []⟩,
    ⟨⟨.conv .i32 (.slot 34), some 35, none⟩, []⟩,
    ⟨⟨.call (.const (.func 76 [] [])) [(.slot 33), (.slot 35)], some 36, none⟩, []⟩,
    ⟨⟨.mv (.slot 1), some 37, none⟩, []⟩,
    ⟨⟨.mv (.slot 2), some 38, none⟩, []⟩,
    ⟨⟨.conv .i32 (.slot 38), some 39, none⟩, []⟩,
    ⟨⟨.un .neg (.slot 39), some 40, none⟩, []⟩,
    ⟨⟨.call (.const (.func 76 [] [])) [(.slot 37), (.slot 40)], some 41, none⟩, []⟩,
    ⟨⟨.append 1 4 (.slot 36) (.slot 41), some 42, none⟩, []⟩,
    ⟨⟨.call (.const (.func 74 [] [])) [(.slot 42)], some 43, none⟩, []⟩,
    ⟨⟨.mv (.slot 43), some 32, none⟩, []⟩,
    ⟨⟨.extract (.slot 32) 0, some 44, none⟩, []⟩,
    ⟨⟨.extract (.slot 32) 1, some 45, none⟩, []⟩,
    ⟨⟨.mv (.slot 44), some 9, none⟩, []⟩,
    ⟨⟨.mv (.slot 45), some 10, none⟩, []⟩])
  (.seq (.region false [⟨⟨.mv (.slot 9), some 46, none⟩, []⟩,
    ⟨⟨.mv (.slot 10), some 47, none⟩, []⟩,
    ⟨⟨.mv (.slot 46), some 6, none⟩, []⟩,
    ⟨⟨.mv (.slot 47), some 7, none⟩, []⟩,
    ⟨⟨.mv (.const (.int .i64 (.ofNat 0))), some 8, none⟩, []⟩])
  .ret)))),
  [.tmp 6, .tmp 7, .tmp 8]⟩
theorem xf63_ok : compFunc Tryz.prog Tryz.f63 = some xf63 := by kernel_rfl
/-- slices.Grow[[]int64,int64] -/
def xf64 : XFunc := ⟨(.seq (.region false [⟨⟨.mv (.const .nils), some 4, none⟩, []⟩])
  (.seq (.seq (.region false [⟨⟨.mv (.slot 1), some 5, none⟩, []⟩,
    ⟨⟨.bin .lss 3 .num (.slot 5) (.const (.int .i64 (.ofNat 0))), some 6, none⟩, []⟩])
  (.cond (.slot 6)
   (.region false [⟨⟨.mkif 9 (.const (.str ⟨⟨[99, 97, 110, 110, 111, 116, 32, 98, 101, 32, 110, 101, 103, 97, 116, 105, 118, 101]⟩⟩)), some 7, none⟩, []⟩,
     ⟨⟨.bad, none, none⟩, []⟩])
   .skip))
  (.seq (.seq (.region false [⟨⟨.mv (.slot 1), some 8, none⟩, []⟩,
    ⟨⟨.mv (.slot 0), some 9, none⟩, []⟩,
    ⟨⟨.cap (.slot 9), some 10, none⟩, []⟩,
    ⟨⟨.mv (.slot 0), some 11, none⟩, []⟩,
    ⟨⟨.len .slice (.slot 11), some 12, none⟩, []⟩,
    ⟨⟨.bin .sub 3 .num (.slot 10) (.slot 12), some 13, none⟩, []⟩,
    ⟨⟨.bin .sub 3 .num (.slot 8) (.slot 13), some 14, none⟩, []⟩,
    ⟨⟨.mv (.slot 14), some 1, none⟩, []⟩])
  (.seq (.region false [⟨⟨.mv (.slot 1), some 15, none⟩, []⟩,
    ⟨⟨.bin .gtr 3 .num (.slot 15) (.const (.int .i64 (.ofNat 0))), some 16, none⟩, []⟩])
  (.cond (.slot 16)
   (.region false [⟨⟨.mv (.slot 0), some 17, none⟩, []⟩,
     ⟨⟨.mv (.slot 0), some 18, none⟩, []⟩,
     ⟨⟨.cap (.slot 18), some 19, none⟩, []⟩,
     ⟨⟨.slc 1 (.slot 17) none (some (.slot 19)) none, some 20, none⟩, []⟩,
     ⟨⟨.mv (.slot 1), some 21, none⟩, []⟩,
     ⟨⟨.appendZ 1 8 [(.int .i64 (.ofNat 0))] (.slot 20) (.slot 21), some 22, none⟩, []⟩,
     ⟨⟨.mv (.slot 0), some 23, none⟩, []⟩,
     ⟨⟨.len .slice (.slot 23), some 24, none⟩, []⟩,
     ⟨⟨.slc 1 (.slot 22) none (some (.slot 24)) none, some 25, none⟩, []⟩,
     ⟨⟨.mv (.slot 25), some 0, none⟩, []⟩])
   .skip)))
  (.seq (.region false [⟨⟨.mv (.slot 0), some 26, none⟩, []⟩,
    ⟨⟨.mv (.slot 26), some 4, none⟩, []⟩])
  .ret)))),
  [.tmp 4]⟩
theorem xf64_ok : compFunc Tryz.prog Tryz.f64 = some xf64 := by kernel_rfl
/-- slices.pdqsortOrdered[int64] -/
def xf65 : XFunc := ⟨(.seq (.region false [⟨⟨.mv (.const (.bool true)), some 8, none⟩, []⟩])
  (.seq (.region false [⟨⟨.mv (.const (.bool true)), some 9, none⟩, []⟩])
  (.block 0 (.loop (.block 1 (.seq (.region false [⟨⟨.mv (.slot 2), some 19, none⟩, []⟩,
     ⟨⟨.mv (.slot 1), some 20, none⟩, []⟩,
     ⟨⟨.bin .sub 3 .num (.slot 19) (.slot 20), some 21, none⟩, []⟩,
     ⟨⟨.mv (.slot 21), some 10, none⟩, []⟩])
   (.seq (.seq (.region false [⟨⟨.mv (.slot 10), some 22, none⟩, []⟩,
     ⟨⟨.bin .leq 3 .num (.slot 22) (.const (.int .i64 (.ofNat 12))), some 23, none⟩, []⟩])
   (.cond (.slot 23)
    (.seq (.region false [⟨⟨.mv (.slot 0), some 24, none⟩, []⟩,
      ⟨⟨.mv (.slot 1), some 25, none⟩, []⟩,
      ⟨⟨.mv (.slot 2), some 26, none⟩, []⟩,
      ⟨⟨.call (.const (.func 77 [] [])) [(.slot 24), (.slot 25), (.slot 26)], some 27, none⟩, []⟩])
    .ret)
    .skip))
   (.seq (.seq (.region false [⟨⟨.mv (.slot 3), some 28, none⟩, []⟩,
     ⟨⟨.bin .eql 3 .num (.slot 28) (.const (.int .i64 (.ofNat 0))), some 29, none⟩, []⟩])
   (.cond (.slot 29)
    (.seq (.region false [⟨⟨.mv (.slot 0), some 30, none⟩, []⟩,
      ⟨⟨.mv (.slot 1), some 31, none⟩, []⟩,
      ⟨⟨.mv (.slot 2), some 32, none⟩, []⟩,
      ⟨⟨.call (.const (.func 78 [] [])) [(.slot 30), (.slot 31), (.slot 32)], some 33, none⟩, []⟩])
    .ret)
    .skip))
   (.seq (.seq (.region false [⟨⟨.mv (.slot 8), some 34, none⟩, []⟩,
     ⟨⟨.un .not (.slot 34), some 35, none⟩, []⟩])
   (.cond (.slot 35)
    (.seq (.region false [⟨⟨.mv (.slot 0), some 36, none⟩, []⟩,
      ⟨⟨.mv (.slot 1), some 37, none⟩, []⟩,
      ⟨⟨.mv (.slot 2), some 38, none⟩, []⟩,
      ⟨⟨.call (.const (.func 79 [] [])) [(.slot 36), (.slot 37), (.slot 38)], some 39, none⟩, []⟩])
    (.region false [⟨⟨.mv (.slot 3), some 40, none⟩, []⟩,
      ⟨⟨.bin .sub 3 .num (.slot 40) (.const (.int .i64 (.ofNat 1))), some 41, none⟩, []⟩,
      ⟨⟨.mv (.slot 41), some 3, none⟩, []⟩]))
    .skip))
   (.seq (.region false [⟨⟨.mv (.slot 0), some 43, none⟩, []⟩,
     ⟨⟨.mv (.slot 1), some 44, none⟩, []⟩,
     ⟨⟨.mv (.slot 2), some 45, none⟩, []⟩,
     ⟨⟨.call (.const (.func 80 [] [])) [(.slot 43), (.slot 44), (.slot 45)], some 46, none⟩, []⟩,
     ⟨⟨.mv (.slot 46), some 42, none⟩, []⟩,
     ⟨⟨.extract (.slot 42) 0, some 47, none⟩, []⟩,
     ⟨⟨.extract (.slot 42) 1, some 48, none⟩, []⟩,
     ⟨⟨.mv (.slot 47), some 11, none⟩, []⟩,
     ⟨⟨.mv (.slot 48), some 12, none⟩, []⟩])
   (.seq (.seq (.region false [⟨⟨.mv (.slot 12), some 49, none⟩, []⟩,
     ⟨⟨.bin .eql 140 .num (.slot 49) (.const (.int .i64 (.ofNat 2))), some 50, none⟩, []⟩])
   (.cond (.slot 50)
    (.seq (.region false [⟨⟨.mv (.slot 0), some 51, none⟩, []⟩,
      ⟨⟨.mv (.slot 1), some 52, none⟩, []⟩,
      ⟨⟨.mv (.slot 2), some 53, none⟩, []⟩,
      ⟨⟨.call (.const (.func 81 [] [])) [(.slot 51), (.slot 52), (.slot 53)], some 54, none⟩, []⟩])
    (.seq (.region false [⟨⟨.mv (.slot 2), some 55, none⟩, []⟩,
      ⟨⟨.bin .sub 3 .num (.slot 55) (.const (.int .i64 (.ofNat 1))), some 56, none⟩, []⟩,
      ⟨⟨.mv (.slot 11), some 57, none⟩, []⟩,
      ⟨⟨.mv (.slot 1), some 58, none⟩, []⟩,
      ⟨⟨.bin .sub 3 .num (.slot 57) (.slot 58), some 59, none⟩, []⟩,
      ⟨⟨.bin .sub 3 .num (.slot 56) (.slot 59), some 60, none⟩, []⟩,
      ⟨⟨.mv (.slot 60), some 11, none⟩, []⟩])
    (.region false [⟨⟨.mv (.const (.int .i64 (.ofNat 1))), some 12, none⟩, []⟩])))
    .skip))
   (.seq (.seq (.region false [⟨⟨.mv (.slot 8), some 61, none⟩, []⟩,
     ⟨⟨.mv (.slot 61), some 62, none⟩, []⟩,
     ⟨⟨.mv (.slot 9), some 63, some (62, true)⟩, []⟩,
     ⟨⟨.pick (.slot 62) (.slot 63) (.const (.bool false)), some 64, none⟩, []⟩,
     ⟨⟨.mv (.slot 64), some 65, none⟩, []⟩,
     ⟨⟨.mv (.slot 12), some 66, some (65, true)⟩, []⟩,
     ⟨⟨.bin .eql 140 .num (.slot 66) (.const (.int .i64 (.ofNat 1))), some 67, some (65, true)⟩, []⟩,
     ⟨⟨.pick (.slot 65) (.slot 67) (.const (.bool false)), some 68, none⟩, []⟩])
   (.cond (.slot 68)
    (.seq (.region false [⟨⟨.mv (.slot 0), some 69, none⟩, []⟩,
      ⟨⟨.mv (.slot 1), some 70, none⟩, []⟩,
      ⟨⟨.mv (.slot 2), some 71, none⟩, []⟩,
      ⟨⟨.call (.const (.func 82 [] [])) [(.slot 69), (.slot 70), (.slot 71)], some 72, none⟩, []⟩])
    (.cond (.slot 72)
     .ret
     .skip))
    .skip))
   (.seq (.seq (.region true [⟨⟨.mv (.slot 1), some 73, none⟩, []⟩,
     ⟨⟨.bin .gtr 3 .num (.slot 73) (.const (.int .i64 (.ofNat 0))), some 74, none⟩, []⟩,
     ⟨⟨.mv (.slot 74), some 75, none⟩, []⟩,
     ⟨⟨.mv (.slot 0), some 76, some (75, true)⟩, []⟩,
     ⟨⟨.mv (.slot 1), some 77, some (75, true)⟩, []⟩,
     ⟨⟨.bin .sub 3 .num (.slot 77) (.const (.int .i64 (.ofNat 1))), some 78, some (75, true)⟩, []⟩,
     ⟨⟨.iaddr 1 (.slot 76) (.slot 78), some 79, some (75, true)⟩, []⟩,
     ⟨⟨.load false 1 (.slot 79), some 80, some (75, true)⟩, []⟩,
     ⟨⟨.mv (.slot 0), some 81, some (75, true)⟩, []⟩,
     ⟨⟨.mv (.slot 11), some 82, some (75, true)⟩, []⟩,
     ⟨⟨.iaddr 1 (.slot 81) (.slot 82), some 83, some (75, true)⟩, []⟩,
     ⟨⟨.load false 1 (.slot 83), some 84, some (75, true)⟩, []⟩,
     ⟨⟨.call (.const (.func 83 [] [])) [(.slot 80), (.slot 84)], some 85, some (75, true)⟩, []⟩,
     ⟨⟨.un .not (.slot 85), some 86, some (75, true)⟩, []⟩,
     ⟨⟨.pick (.slot 75) (.slot 86) (.const (.bool false)), some 87, none⟩, []⟩])
   (.cond (.slot 87)
    (.seq (.region false [⟨⟨.mv (.slot 0), some 88, none⟩, []⟩,
      ⟨⟨.mv (.slot 1), some 89, none⟩, []⟩,
      ⟨⟨.mv (.slot 2), some 90, none⟩, []⟩,
      ⟨⟨.mv (.slot 11), some 91, none⟩, []⟩,
      ⟨⟨.call (.const (.func 84 [] [])) [(.slot 88), (.slot 89), (.slot 90), (.slot 91)], some 92, none⟩, []⟩,
      ⟨⟨.mv (.slot 92), some 13, none⟩, []⟩])
    (.seq (.region false [⟨⟨.mv (.slot 13), some 93, none⟩, []⟩,
      ⟨⟨.mv (.slot 93), some 1, none⟩, []⟩])
    (.exit 1)))
    .skip))
   (.seq (.region false [⟨⟨.mv (.slot 0), some 95, none⟩, []⟩,
     ⟨⟨.mv (.slot 1), some 96, none⟩, []⟩,
     ⟨⟨.mv (.slot 2), some 97, none⟩, []⟩,
     ⟨⟨.mv (.slot 11), some 98, none⟩, []⟩,
     ⟨⟨.call (.const (.func 85 [] [])) [(.slot 95), (.slot 96), (.slot 97), (.slot 98)], some 99, none⟩, []⟩,
     ⟨⟨.mv (.slot 99), some 94, none⟩, []⟩,
     ⟨⟨.extract (.slot 94) 0, some 100, none⟩, []⟩,
     ⟨⟨.extract (.slot 94) 1, some 101, none⟩, []⟩,
     ⟨⟨.mv (.slot 100), some 14, none⟩, []⟩,
     ⟨⟨.mv (.slot 101), some 15, none⟩, []⟩])
   (.seq (.region false [⟨⟨.mv (.slot 15), some 102, none⟩, []⟩,
     ⟨⟨.mv (.slot 102), some 9, none⟩, []⟩])
   (.seq (.region false [⟨⟨.mv (.slot 14), some 103, none⟩, []⟩,
     ⟨⟨.mv (.slot 1), some 104, none⟩, []⟩,
     ⟨⟨.bin .sub 3 .num (.slot 103) (.slot 104), some 105, none⟩, []⟩,
     ⟨⟨.mv (.slot 2), some 106, none⟩, []⟩,
     ⟨⟨.mv (.slot 14), some 107, none⟩, []⟩,
     ⟨⟨.bin .sub 3 .num (.slot 106) (.slot 107), some 108, none⟩, []⟩,
     ⟨⟨.mv (.slot 105), some 16, none⟩, []⟩,
     ⟨⟨.mv (.slot 108), some 17, none⟩, []⟩])
   (.seq (.region false [⟨⟨.mv (.slot 10), some 109, none⟩, []⟩,
     ⟨⟨.bin .quo 3 .num (.slot 109) (.const (.int .i64 (.ofNat 8))), some 110, none⟩, []⟩,
     ⟨⟨.mv (.slot 110), some 18, none⟩, []⟩])
   (.seq (.region false [⟨⟨.mv (.slot 16), some 111, none⟩, []⟩,
     ⟨⟨.mv (.slot 17), some 112, none⟩, []⟩,
     ⟨⟨.bin .lss 3 .num (.slot 111) (.slot 112), some 113, none⟩, []⟩])
   (.cond (.slot 113)
    (.seq (.region false [⟨⟨.mv (.slot 16), some 114, none⟩, []⟩,
      ⟨⟨.mv (.slot 18), some 115, none⟩, []⟩,
      ⟨⟨.bin .geq 3 .num (.slot 114) (.slot 115), some 116, none⟩, []⟩,
      ⟨⟨.mv (.slot 116), some 8, none⟩, []⟩])
    (.seq (.region false [⟨⟨.mv (.slot 0), some 117, none⟩, []⟩,
      ⟨⟨.mv (.slot 1), some 118, none⟩, []⟩,
      ⟨⟨.mv (.slot 14), some 119, none⟩, []⟩,
      ⟨⟨.mv (.slot 3), some 120, none⟩, []⟩,
      ⟨⟨.call (.const (.func 65 [] [])) [(.slot 117), (.slot 118), (.slot 119), (.slot 120)], some 121, none⟩, []⟩])
    (.region false [⟨⟨.mv (.slot 14), some 122, none⟩, []⟩,
      ⟨⟨.bin .add 3 .num (.slot 122) (.const (.int .i64 (.ofNat 1))), some 123, none⟩, []⟩,
      ⟨⟨.mv (.slot 123), some 1, none⟩, []⟩])))
    (.seq (.region false [⟨⟨.mv (.slot 17), some 124, none⟩, []⟩,
      ⟨⟨.mv (.slot 18), some 125, none⟩, []⟩,
      ⟨⟨.bin .geq 3 .num (.slot 124) (.slot 125), some 126, none⟩, []⟩,
      ⟨⟨.mv (.slot 126), some 8, none⟩, []⟩])
    (.seq (.region false [⟨⟨.mv (.slot 0), some 127, none⟩, []⟩,
      ⟨⟨.mv (.slot 14), some 128, none⟩, []⟩,
      ⟨⟨.bin .add 3 .num (.slot 128) (.const (.int .i64 (.ofNat 1))), some 129, none⟩, []⟩,
      ⟨⟨.mv (.slot 2), some 130, none⟩, []⟩,
      ⟨⟨.mv (.slot 3), some 131, none⟩, []⟩,
      ⟨⟨.call (.const (.func 65 [] [])) [(.slot 127), (.slot 129), (.slot 130), (.slot 131)], some 132, none⟩, []⟩])
    (.region false [⟨⟨.mv (.slot 14), some 133, none⟩, []⟩,
      ⟨⟨.mv (.slot 133), some 2, none⟩, []⟩])))))))))))))))))))))),
  []⟩
theorem xf65_ok : compFunc Tryz.prog Tryz.f65 = some xf65 := by kernel_rfl
/-- math/bits.Len -/
def xf66 : XFunc := ⟨(.seq (.region false [⟨⟨.mv (.const (.int .i64 (.ofNat 0))), some 2, none⟩, []⟩])
  (.seq (.cond (.const (.bool false))
   (.seq (.region false [⟨⟨.mv (.slot 0), some 3, none⟩, []⟩,
     ⟨⟨.conv .u32 (.slot 3), some 4, none⟩, []⟩,
     ⟨⟨.call (.const (.func 86 [] [])) [(.slot 4)], some 5, none⟩, []⟩,
     ⟨⟨.mv (.slot 5), some 2, none⟩, []⟩])
   .ret)
   .skip)
  (.seq (.region false [⟨⟨.mv (.slot 0), some 6, none⟩, []⟩,
    ⟨⟨.call (.const (.func 87 [] [])) [(.slot 6)], some 7, none⟩, []⟩,
    ⟨⟨.mv (.slot 7), some 2, none⟩, []⟩])
  .ret))),
  [.tmp 2]⟩
theorem xf66_ok : compFunc Tryz.prog Tryz.f66 = some xf66 := by kernel_rfl
/-- (*threshing/base.Base).remove -/
def xf67 : XFunc := ⟨(.seq (.region false [⟨⟨.box (.slot 1), some 3, none⟩, []⟩,
    ⟨⟨.mv (.const (.int .i64 (.ofNat 0))), some 4, none⟩, []⟩])
  (.seq (.seq (.region false [⟨⟨.mv (.slot 0), some 7, none⟩, []⟩,
    ⟨⟨.call (.const (.func 28 [] [])) [(.slot 7)], some 8, none⟩, []⟩])
  (.cond (.slot 8)
   (.seq (.region false [⟨⟨.mv (.const (.int .i64 (.ofNat 3))), some 4, none⟩, []⟩])
   .ret)
   .skip))
  (.seq (.region true [⟨⟨.mv (.slot 0), some 9, none⟩, []⟩,
    ⟨⟨.nilCheck (.slot 9), some 10, none⟩, []⟩,
    ⟨⟨.faddr 1 (.slot 10), some 11, none⟩, []⟩,
    ⟨⟨.load false 1 (.slot 11), some 12, none⟩, []⟩,
    ⟨⟨.faddr 0 (.slot 3), some 13, none⟩, []⟩,
    ⟨⟨.load false 1 (.slot 13), some 14, none⟩, []⟩,
    ⟨⟨.delete .i64 (.slot 12) (.slot 14), none, none⟩, []⟩])
  (.seq (.region true [⟨⟨.mv (.slot 0), some 15, none⟩, []⟩,
    ⟨⟨.nilCheck (.slot 15), some 16, none⟩, []⟩,
    ⟨⟨.faddr 3 (.slot 16), some 17, none⟩, []⟩,
    ⟨⟨.load false 1 (.slot 17), some 18, none⟩, []⟩,
    ⟨⟨.faddr 0 (.slot 3), some 19, none⟩, []⟩,
    ⟨⟨.load false 1 (.slot 19), some 20, none⟩, []⟩,
    ⟨⟨.delete .i64 (.slot 18) (.slot 20), none, none⟩, []⟩])
  (.seq (.seq (.region false [⟨⟨.faddr 1 (.slot 3), some 21, none⟩, []⟩,
    ⟨⟨.load false 1 (.slot 21), some 22, none⟩, []⟩,
    ⟨⟨.len .slice (.slot 22), some 23, none⟩, []⟩,
    ⟨⟨.mv (.const (.int .i64 (.ofNat 0))), some 24, none⟩, []⟩])
  (.block 0 (.loop (.seq (.region false [⟨⟨.bin .lss 3 .num (.slot 24) (.slot 23), some 25, none⟩, []⟩])
   (.seq (.cond (.slot 25)
    .skip
    (.exit 0))
   (.seq (.block 1 (.seq (.region false [⟨⟨.iaddr 1 (.slot 22) (.slot 24), some 26, none⟩, []⟩,
     ⟨⟨.load false 1 (.slot 26), some 27, none⟩, []⟩,
     ⟨⟨.mv (.slot 27), some 6, none⟩, []⟩])
   (.region true [⟨⟨.mv (.slot 0), some 28, none⟩, []⟩,
     ⟨⟨.nilCheck (.slot 28), some 29, none⟩, []⟩,
     ⟨⟨.faddr 2 (.slot 29), some 30, none⟩, []⟩,
     ⟨⟨.load false 1 (.slot 30), some 31, none⟩, []⟩,
     ⟨⟨.mv (.slot 6), some 32, none⟩, []⟩,
     ⟨⟨.lookup .i32 .nilm (.slot 31) (.slot 32) false, some 33, none⟩, []⟩,
     ⟨⟨.faddr 0 (.slot 3), some 34, none⟩, []⟩,
     ⟨⟨.load false 1 (.slot 34), some 35, none⟩, []⟩,
     ⟨⟨.delete .i64 (.slot 33) (.slot 35), none, none⟩, []⟩])))
   (.region false [⟨⟨.bin .add 3 .num (.slot 24) (.const (.int .i64 (.ofNat 1))), some 36, none⟩, []⟩,
     ⟨⟨.mv (.slot 36), some 24, none⟩, []⟩])))))))
  (.seq (.region true [⟨⟨.mv (.slot 0), some 37, none⟩, []⟩,
    ⟨⟨.mv (.slot 0), some 38, none⟩, []⟩,
    ⟨⟨.nilCheck (.slot 38), some 39, none⟩, []⟩,
    ⟨⟨.faddr 5 (.slot 39), some 40, none⟩, []⟩,
    ⟨⟨.load false 1 (.slot 40), some 41, none⟩, []⟩,
    ⟨⟨.mv (.slot 0), some 42, none⟩, []⟩,
    ⟨⟨.nilCheck (.slot 42), some 43, none⟩, []⟩,
    ⟨⟨.faddr 4 (.slot 43), some 44, none⟩, []⟩,
    ⟨⟨.load false 1 (.slot 44), some 45, none⟩, []⟩,
    ⟨⟨.faddr 0 (.slot 3), some 46, none⟩, []⟩,
    ⟨⟨.load false 1 (.slot 46), some 47, none⟩, []⟩,
    ⟨⟨.bslice 1 [(.int .i64 (.ofNat 0))] [(0, 1, (.slot 47))] 1, some 48, none⟩, [⟨.load false 1 (.slot 40), some 41, none⟩, ⟨.load false 1 (.slot 44), some 45, none⟩]⟩,
    ⟨⟨.build [(.int .u8 (.ofNat 0)), (.int .i64 (.ofNat 0)), .nils, .nils] [(0, 1, (.const (.int .u8 (.ofNat 2)))), (1, 1, (.slot 45)), (3, 1, (.slot 48))], some 49, none⟩, []⟩,
    ⟨⟨.bslice 4 [(.int .u8 (.ofNat 0)), (.int .i64 (.ofNat 0)), .nils, .nils] [(0, 4, (.slot 49))] 1, some 50, none⟩, [⟨.load false 1 (.slot 40), some 41, none⟩]⟩,
    ⟨⟨.append 4 64 (.slot 41) (.slot 50), some 51, none⟩, []⟩,
    ⟨⟨.nilCheck (.slot 37), some 52, none⟩, []⟩,
    ⟨⟨.faddr 5 (.slot 52), some 53, none⟩, []⟩,
    ⟨⟨.store 1 (.slot 53) (.slot 51), none, none⟩, []⟩])
  (.seq (.region false [⟨⟨.mv (.const (.int .i64 (.ofNat 0))), some 4, none⟩, []⟩])
  .ret))))))),
  [.tmp 4]⟩
theorem xf67_ok : compFunc Tryz.prog Tryz.f67 = some xf67 := by kernel_rfl
/-- threshing/base.both -/
def xf68 : XFunc := ⟨(.seq (.region false [⟨⟨.box (.slot 0), some 1, none⟩, []⟩,
    ⟨⟨.mv (.const (.bool false)), some 2, none⟩, []⟩])
  (.seq (.region false [⟨⟨.load false 1 (.slot 1), some 3, none⟩, []⟩,
    ⟨⟨.mkfunc 88 [] [(.slot 1)], some 4, none⟩, []⟩,
    ⟨⟨.call (.const (.func 50 [] [])) [(.slot 3), (.slot 4)], some 5, none⟩, []⟩,
    ⟨⟨.mv (.slot 5), some 2, none⟩, []⟩])
  .ret)),
  [.tmp 2]⟩
theorem xf68_ok : compFunc Tryz.prog Tryz.f68 = some xf68 := by kernel_rfl
/-- slices.IndexFunc[threshing/api.Clause,threshing/api.Lit] -/
def xf69 : XFunc := ⟨(.seq (.region false [⟨⟨.mv (.const (.int .i64 (.ofNat 0))), some 4, none⟩, []⟩])
  (.seq (.seq (.region false [⟨⟨.mv (.slot 0), some 6, none⟩, []⟩,
    ⟨⟨.len .slice (.slot 6), some 7, none⟩, []⟩,
    ⟨⟨.mv (.const (.int .i64 (.ofNat 0))), some 8, none⟩, []⟩])
  (.block 0 (.loop (.seq (.region false [⟨⟨.bin .lss 3 .num (.slot 8) (.slot 7), some 9, none⟩, []⟩])
   (.seq (.cond (.slot 9)
    .skip
    (.exit 0))
   (.seq (.block 1 (.seq (.region false [⟨⟨.mv (.slot 8), some 10, none⟩, []⟩,
     ⟨⟨.mv (.slot 10), some 5, none⟩, []⟩])
   (.seq (.region false [⟨⟨.mv (.slot 1), some 11, none⟩, []⟩,
     ⟨⟨.mv (.slot 0), some 12, none⟩, []⟩,
     ⟨⟨.mv (.slot 5), some 13, none⟩, []⟩,
     ⟨⟨.iaddr 1 (.slot 12) (.slot 13), some 14, none⟩, []⟩,
     ⟨⟨.load false 1 (.slot 14), some 15, none⟩, []⟩,
     ⟨⟨.call (.slot 11) [(.slot 15)], some 16, none⟩, []⟩])
   (.cond (.slot 16)
    (.seq (.region false [⟨⟨.mv (.slot 5), some 17, none⟩, []⟩,
      ⟨⟨.mv (.slot 17), some 4, none⟩, []⟩])
    .ret)
    .skip))))
   (.region false [⟨⟨.bin .add 3 .num (.slot 8) (.const (.int .i64 (.ofNat 1))), some 18, none⟩, []⟩,
     ⟨⟨.mv (.slot 18), some 8, none⟩, []⟩])))))))
  (.seq (.region false [⟨⟨.mv (.const (.int .i64 (.negSucc 0))), some 4, none⟩, []⟩])
  .ret))),
  [.tmp 4]⟩
theorem xf69_ok : compFunc Tryz.prog Tryz.f69 = some xf69 := by kernel_rfl
/-- (threshing/cnf.lit).variable -/
def xf70 : XFunc := ⟨(.seq (.region false [⟨⟨.mv (.const (.int .i64 (.ofNat 0))), some 2, none⟩, []⟩])
  (.seq (.seq (.region false [⟨⟨.mv (.slot 0), some 3, none⟩, []⟩,
    ⟨⟨.bin .lss 127 .num (.slot 3) (.const (.int .i32 (.ofNat 0))), some 4, none⟩, []⟩])
  (.cond (.slot 4)
   (.seq (.region false [⟨⟨.mv (.slot 0), some 5, none⟩, []⟩,
     ⟨⟨.conv .i64 (.slot 5), some 6, none⟩, []⟩,
     ⟨⟨.un .neg (.slot 6), some 7, none⟩, []⟩,
     ⟨⟨.mv (.slot 7), some 2, none⟩, []⟩])
   .ret)
   .skip))
  (.seq (.region false [⟨⟨.mv (.slot 0), some 8, none⟩, []⟩,
    ⟨⟨.conv .i64 (.slot 8), some 9, none⟩, []⟩,
    ⟨⟨.mv (.slot 9), some 2, none⟩, []⟩])
  .ret))),
  [.tmp 2]⟩
theorem xf70_ok : compFunc Tryz.prog Tryz.f70 = some xf70 := by kernel_rfl
/-- slices.Sort[[]int,int] -/
def xf71 : XFunc := ⟨(.seq (.region false [⟨⟨.mv (.slot 0), some 3, none⟩, []⟩,
    ⟨⟨.len .slice (.slot 3), some 4, none⟩, []⟩,
    ⟨⟨.mv (.slot 4), some 2, none⟩, []⟩])
  (.region false [⟨⟨.mv (.slot 0), some 5, none⟩, []⟩,
    ⟨⟨.mv (.slot 2), some 6, none⟩, []⟩,
    ⟨⟨.mv (.slot 2), some 7, none⟩, []⟩,
    ⟨⟨.conv .u64 (.slot 7), some 8, none⟩, []⟩,
    ⟨⟨.call (.const (.func 66 [] [])) [(.slot 8)], some 9, none⟩, []⟩,
    ⟨⟨.call (.const (.func 89 [] [])) [(.slot 5), (.const (.int .i64 (.ofNat 0))), (.slot 6), (.slot 9)], some 10, none⟩, []⟩])),
  []⟩
theorem xf71_ok : compFunc Tryz.prog Tryz.f71 = some xf71 := by kernel_rfl
end Go.Proofs.YtdceckhkmfbpmaaGreat

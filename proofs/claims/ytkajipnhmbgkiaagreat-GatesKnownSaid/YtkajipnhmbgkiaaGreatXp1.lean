/- The functions of the program in X's code, printed by a program of ours; each is what the program's own is turned to. -/
import Derived.Test.YtkajipnhmbgkiaaGreatProg
import Derived.Test.YtkajipnhmbgkiaaGreatXc
import Derived.KernelRfl
namespace Go.Proofs.YtkajipnhmbgkiaaGreat
open Go.Xr
/-- (*threshing/gates.finder).xors -/
def xf17 : XFunc := ⟨(.seq (.region false [⟨⟨.mv (.const .nils), some 2, none⟩, []⟩])
  (.seq (.seq (.region false [⟨⟨.mv (.slot 0), some 9, none⟩, []⟩,
    ⟨⟨.nilCheck (.slot 9), some 10, none⟩, []⟩,
    ⟨⟨.faddr 3 (.slot 10), some 11, none⟩, []⟩,
    ⟨⟨.load false 1 (.slot 11), some 12, none⟩, []⟩,
    ⟨⟨.len .slice (.slot 12), some 13, none⟩, []⟩,
    ⟨⟨.mv (.const (.int .i64 (.ofNat 0))), some 14, none⟩, []⟩])
  (.block 0 (.loop (.seq (.region false [⟨⟨.bin .lss 3 .num (.slot 14) (.slot 13), some 15, none⟩, []⟩])
   (.seq (.cond (.slot 15)
    .skip
    (.exit 0))
   (.seq (.block 1 (.seq (.region false [⟨⟨.iaddr 1 (.slot 12) (.slot 14), some 16, none⟩, []⟩,
     ⟨⟨.load false 1 (.slot 16), some 17, none⟩, []⟩,
     ⟨⟨.mv (.slot 17), some 4, none⟩, []⟩])
   (.seq (.region false [⟨⟨.mv (.slot 0), some 18, none⟩, []⟩,
     ⟨⟨.nilCheck (.slot 18), some 19, none⟩, []⟩,
     ⟨⟨.faddr 3 (.slot 19), some 20, none⟩, []⟩,
     ⟨⟨.load false 1 (.slot 20), some 21, none⟩, []⟩,
     ⟨⟨.len .slice (.slot 21), some 22, none⟩, []⟩,
     ⟨⟨.mv (.const (.int .i64 (.ofNat 0))), some 23, none⟩, []⟩])
   (.block 2 (.loop (.seq (.region false [⟨⟨.bin .lss 3 .num (.slot 23) (.slot 22), some 24, none⟩, []⟩])
    (.seq (.cond (.slot 24)
     .skip
     (.exit 2))
    (.seq (.block 3 (.seq (.region false [⟨⟨.iaddr 1 (.slot 21) (.slot 23), some 25, none⟩, []⟩,
      ⟨⟨.load false 1 (.slot 25), some 26, none⟩, []⟩,
      ⟨⟨.mv (.slot 26), some 6, none⟩, []⟩])
    (.seq (.seq (.region false [⟨⟨.mv (.slot 6), some 27, none⟩, []⟩,
      ⟨⟨.bin .lss 23 .num (.slot 27) (.const (.int .i32 (.ofNat 0))), some 28, none⟩, []⟩,
      ⟨⟨.mv (.slot 28), some 29, none⟩, []⟩,
      ⟨⟨.mv (.slot 6), some 30, some (29, false)⟩, []⟩,
      ⟨⟨.conv .i64 (.slot 30), some 31, some (29, false)⟩, []⟩,
      ⟨⟨.mv (.slot 4), some 32, some (29, false)⟩, []⟩,
      ⟨⟨.call (.const (.func 27 [] [])) [(.slot 32)], some 33, some (29, false)⟩, []⟩,
      ⟨⟨.bin .leq 3 .num (.slot 31) (.slot 33), some 34, some (29, false)⟩, []⟩,
      ⟨⟨.pick (.slot 29) (.const (.bool true)) (.slot 34), some 35, none⟩, []⟩])
    (.cond (.slot 35)
     (.exit 3)
     .skip))
    (.seq (.region true [⟨⟨.mv (.slot 0), some 37, none⟩, []⟩,
      ⟨⟨.mv (.slot 0), some 38, none⟩, []⟩,
      ⟨⟨.nilCheck (.slot 38), some 39, none⟩, []⟩,
      ⟨⟨.faddr 1 (.slot 39), some 40, none⟩, []⟩,
      ⟨⟨.load false 1 (.slot 40), some 41, none⟩, []⟩,
      ⟨⟨.un .neg (.slot 41), some 42, none⟩, []⟩,
      ⟨⟨.mv (.slot 4), some 43, none⟩, []⟩,
      ⟨⟨.mv (.slot 6), some 44, none⟩, []⟩,
      ⟨⟨.mv (.slot 0), some 46, none⟩, []⟩,
      ⟨⟨.nilCheck (.slot 46), some 47, none⟩, []⟩,
      ⟨⟨.faddr 1 (.slot 47), some 48, none⟩, []⟩,
      ⟨⟨.load false 1 (.slot 48), some 49, none⟩, []⟩,
      ⟨⟨.un .neg (.slot 49), some 50, none⟩, []⟩,
      ⟨⟨.mv (.slot 4), some 51, none⟩, []⟩,
      ⟨⟨.un .neg (.slot 51), some 52, none⟩, []⟩,
      ⟨⟨.mv (.slot 6), some 53, none⟩, []⟩,
      ⟨⟨.un .neg (.slot 53), some 54, none⟩, []⟩,
      ⟨⟨.mv (.slot 0), some 56, none⟩, []⟩,
      ⟨⟨.nilCheck (.slot 56), some 57, none⟩, []⟩,
      ⟨⟨.faddr 1 (.slot 57), some 58, none⟩, []⟩,
      ⟨⟨.load false 1 (.slot 58), some 59, none⟩, []⟩,
      ⟨⟨.mv (.slot 4), some 60, none⟩, []⟩,
      ⟨⟨.un .neg (.slot 60), some 61, none⟩, []⟩,
      ⟨⟨.mv (.slot 6), some 62, none⟩, []⟩,
      ⟨⟨.mv (.slot 0), some 64, none⟩, []⟩,
      ⟨⟨.nilCheck (.slot 64), some 65, none⟩, []⟩,
      ⟨⟨.faddr 1 (.slot 65), some 66, none⟩, []⟩,
      ⟨⟨.load false 1 (.slot 66), some 67, none⟩, []⟩,
      ⟨⟨.mv (.slot 4), some 68, none⟩, []⟩,
      ⟨⟨.mv (.slot 6), some 69, none⟩, []⟩,
      ⟨⟨.un .neg (.slot 69), some 70, none⟩, []⟩,
      ⟨⟨.bslice 1 [(.int .i32 (.ofNat 0)), (.int .i32 (.ofNat 0)), (.int .i32 (.ofNat 0))] [(0, 1, (.slot 42)), (1, 1, (.slot 43)), (2, 1, (.slot 44))] 3, some 45, none⟩, [⟨.load false 1 (.slot 48), some 49, none⟩, ⟨.load false 1 (.slot 58), some 59, none⟩, ⟨.load false 1 (.slot 66), some 67, none⟩]⟩,
      ⟨⟨.bslice 1 [(.int .i32 (.ofNat 0)), (.int .i32 (.ofNat 0)), (.int .i32 (.ofNat 0))] [(0, 1, (.slot 50)), (1, 1, (.slot 52)), (2, 1, (.slot 54))] 3, some 55, none⟩, [⟨.load false 1 (.slot 40), some 41, none⟩, ⟨.load false 1 (.slot 58), some 59, none⟩, ⟨.load false 1 (.slot 66), some 67, none⟩]⟩,
      ⟨⟨.bslice 1 [(.int .i32 (.ofNat 0)), (.int .i32 (.ofNat 0)), (.int .i32 (.ofNat 0))] [(0, 1, (.slot 59)), (1, 1, (.slot 61)), (2, 1, (.slot 62))] 3, some 63, none⟩, [⟨.load false 1 (.slot 40), some 41, none⟩, ⟨.load false 1 (.slot 48), some 49, none⟩, ⟨.load false 1 (.slot 66), some 67, none⟩]⟩,
      ⟨⟨.bslice 1 [(.int .i32 (.ofNat 0)), (.int .i32 (.ofNat 0)), (.int .i32 (.ofNat 0))] [(0, 1, (.slot 67)), (1, 1, (.slot 68)), (2, 1, (.slot 70))] 3, some 71, none⟩, [⟨.load false 1 (.slot 40), some 41, none⟩, ⟨.load false 1 (.slot 48), some 49, none⟩, ⟨.load false 1 (.slot 58), some 59, none⟩]⟩,
      ⟨⟨.bslice 1 [.nils, .nils, .nils, .nils] [(0, 1, (.slot 45)), (1, 1, (.slot 55)), (2, 1, (.slot 63)), (3, 1, (.slot 71))] 4, some 72, none⟩, []⟩,
      ⟨⟨.call (.const (.func 36 [] [])) [(.slot 37), (.slot 72)], some 73, none⟩, []⟩,
      ⟨⟨.mv (.slot 73), some 36, none⟩, []⟩,
      ⟨⟨.extract (.slot 36) 0, some 74, none⟩, []⟩,
      ⟨⟨.extract (.slot 36) 1, some 75, none⟩, []⟩,
      ⟨⟨.mv (.slot 74), some 7, none⟩, []⟩,
      ⟨⟨.mv (.slot 75), some 8, none⟩, []⟩])
    (.seq (.region false [⟨⟨.mv (.slot 8), some 76, none⟩, []⟩])
    (.cond (.slot 76)
     (.region false [⟨⟨.mv (.slot 2), some 77, none⟩, []⟩,
       ⟨⟨.mv (.slot 0), some 78, none⟩, []⟩,
       ⟨⟨.nilCheck (.slot 78), some 79, none⟩, []⟩,
       ⟨⟨.faddr 1 (.slot 79), some 80, none⟩, []⟩,
       ⟨⟨.load false 1 (.slot 80), some 81, none⟩, []⟩,
       ⟨⟨.mv (.slot 4), some 82, none⟩, []⟩,
       ⟨⟨.mv (.slot 6), some 83, none⟩, []⟩,
       ⟨⟨.bslice 1 [(.int .i32 (.ofNat 0)), (.int .i32 (.ofNat 0))] [(0, 1, (.slot 82)), (1, 1, (.slot 83))] 2, some 84, none⟩, []⟩,
       ⟨⟨.mv (.slot 7), some 85, none⟩, []⟩,
       ⟨⟨.build [(.int .u8 (.ofNat 0)), (.int .i32 (.ofNat 0)), .nils, .nils] [(0, 1, (.const (.int .u8 (.ofNat 3)))), (1, 1, (.slot 81)), (2, 1, (.slot 84)), (3, 1, (.slot 85))], some 86, none⟩, []⟩,
       ⟨⟨.bslice 4 [(.int .u8 (.ofNat 0)), (.int .i32 (.ofNat 0)), .nils, .nils] [(0, 4, (.slot 86))] 1, some 87, none⟩, []⟩,
       ⟨⟨.append 4 56 (.slot 77) (.slot 87), some 88, none⟩, []⟩,
       ⟨⟨.mv (.slot 88), some 2, none⟩, []⟩])
     .skip))))))
    (.region false [⟨⟨.bin .add 3 .num (.slot 23) (.const (.int .i64 (.ofNat 1))), some 89, none⟩, []⟩,
      ⟨⟨.mv (.slot 89), some 23, none⟩, []⟩])))))))))
   (.region false [⟨⟨.bin .add 3 .num (.slot 14) (.const (.int .i64 (.ofNat 1))), some 90, none⟩, []⟩,
     ⟨⟨.mv (.slot 90), some 14, none⟩, []⟩])))))))
  (.seq (.region false [⟨⟨.mv (.slot 2), some 91, none⟩, []⟩,
    ⟨⟨.mv (.slot 91), some 2, none⟩, []⟩])
  .ret))),
  [.tmp 2]⟩
theorem xf17_ok : compFunc Tryz.prog Tryz.f17 = some xf17 := by kernel_rfl
/-- (*threshing/gates.finder).ites -/
def xf18 : XFunc := ⟨(.seq (.region false [⟨⟨.mv (.const .nils), some 2, none⟩, []⟩])
  (.seq (.seq (.region false [⟨⟨.mv (.slot 0), some 13, none⟩, []⟩,
    ⟨⟨.nilCheck (.slot 13), some 14, none⟩, []⟩,
    ⟨⟨.faddr 3 (.slot 14), some 15, none⟩, []⟩,
    ⟨⟨.load false 1 (.slot 15), some 16, none⟩, []⟩,
    ⟨⟨.len .slice (.slot 16), some 17, none⟩, []⟩,
    ⟨⟨.mv (.const (.int .i64 (.ofNat 0))), some 18, none⟩, []⟩])
  (.block 0 (.loop (.seq (.region false [⟨⟨.bin .lss 3 .num (.slot 18) (.slot 17), some 19, none⟩, []⟩])
   (.seq (.cond (.slot 19)
    .skip
    (.exit 0))
   (.seq (.block 1 (.seq (.region false [⟨⟨.iaddr 1 (.slot 16) (.slot 18), some 20, none⟩, []⟩,
     ⟨⟨.load false 1 (.slot 20), some 21, none⟩, []⟩,
     ⟨⟨.mv (.slot 21), some 4, none⟩, []⟩])
   (.seq (.region false [⟨⟨.mv (.slot 0), some 22, none⟩, []⟩,
     ⟨⟨.nilCheck (.slot 22), some 23, none⟩, []⟩,
     ⟨⟨.faddr 3 (.slot 23), some 24, none⟩, []⟩,
     ⟨⟨.load false 1 (.slot 24), some 25, none⟩, []⟩,
     ⟨⟨.len .slice (.slot 25), some 26, none⟩, []⟩,
     ⟨⟨.mv (.const (.int .i64 (.ofNat 0))), some 27, none⟩, []⟩])
   (.block 2 (.loop (.seq (.region false [⟨⟨.bin .lss 3 .num (.slot 27) (.slot 26), some 28, none⟩, []⟩])
    (.seq (.cond (.slot 28)
     .skip
     (.exit 2))
    (.seq (.block 3 (.seq (.region false [⟨⟨.iaddr 1 (.slot 25) (.slot 27), some 29, none⟩, []⟩,
      ⟨⟨.load false 1 (.slot 29), some 30, none⟩, []⟩,
      ⟨⟨.mv (.slot 30), some 6, none⟩, []⟩])
    (.seq (.seq (.region false [⟨⟨.mv (.slot 0), some 32, none⟩, []⟩,
      ⟨⟨.mv (.slot 0), some 33, none⟩, []⟩,
      ⟨⟨.nilCheck (.slot 33), some 34, none⟩, []⟩,
      ⟨⟨.faddr 1 (.slot 34), some 35, none⟩, []⟩,
      ⟨⟨.load false 1 (.slot 35), some 36, none⟩, []⟩,
      ⟨⟨.un .neg (.slot 36), some 37, none⟩, []⟩,
      ⟨⟨.mv (.slot 4), some 38, none⟩, []⟩,
      ⟨⟨.un .neg (.slot 38), some 39, none⟩, []⟩,
      ⟨⟨.mv (.slot 6), some 40, none⟩, []⟩,
      ⟨⟨.bslice 1 [(.int .i32 (.ofNat 0)), (.int .i32 (.ofNat 0)), (.int .i32 (.ofNat 0))] [(0, 1, (.slot 37)), (1, 1, (.slot 39)), (2, 1, (.slot 40))] 3, some 41, none⟩, []⟩,
      ⟨⟨.bslice 1 [.nils] [(0, 1, (.slot 41))] 1, some 42, none⟩, []⟩,
      ⟨⟨.call (.const (.func 36 [] [])) [(.slot 32), (.slot 42)], some 43, none⟩, []⟩,
      ⟨⟨.mv (.slot 43), some 31, none⟩, []⟩,
      ⟨⟨.extract (.slot 31) 0, some 44, none⟩, []⟩,
      ⟨⟨.extract (.slot 31) 1, some 45, none⟩, []⟩,
      ⟨⟨.mv (.slot 44), some 7, none⟩, []⟩,
      ⟨⟨.mv (.slot 45), some 8, none⟩, []⟩])
    (.seq (.region false [⟨⟨.mv (.slot 4), some 46, none⟩, []⟩,
      ⟨⟨.bin .lss 23 .num (.slot 46) (.const (.int .i32 (.ofNat 0))), some 47, none⟩, []⟩,
      ⟨⟨.mv (.slot 47), some 48, none⟩, []⟩,
      ⟨⟨.mv (.slot 6), some 49, some (48, false)⟩, []⟩,
      ⟨⟨.call (.const (.func 27 [] [])) [(.slot 49)], some 50, some (48, false)⟩, []⟩,
      ⟨⟨.mv (.slot 4), some 51, some (48, false)⟩, []⟩,
      ⟨⟨.conv .i64 (.slot 51), some 52, some (48, false)⟩, []⟩,
      ⟨⟨.bin .eql 3 .num (.slot 50) (.slot 52), some 53, some (48, false)⟩, []⟩,
      ⟨⟨.pick (.slot 48) (.const (.bool true)) (.slot 53), some 54, none⟩, []⟩,
      ⟨⟨.mv (.slot 54), some 55, none⟩, []⟩,
      ⟨⟨.mv (.slot 8), some 56, some (55, false)⟩, []⟩,
      ⟨⟨.un .not (.slot 56), some 57, some (55, false)⟩, []⟩,
      ⟨⟨.pick (.slot 55) (.const (.bool true)) (.slot 57), some 58, none⟩, []⟩])
    (.cond (.slot 58)
     (.exit 3)
     .skip)))
    (.seq (.region false [⟨⟨.mv (.slot 0), some 59, none⟩, []⟩,
      ⟨⟨.nilCheck (.slot 59), some 60, none⟩, []⟩,
      ⟨⟨.faddr 3 (.slot 60), some 61, none⟩, []⟩,
      ⟨⟨.load false 1 (.slot 61), some 62, none⟩, []⟩,
      ⟨⟨.len .slice (.slot 62), some 63, none⟩, []⟩,
      ⟨⟨.mv (.const (.int .i64 (.ofNat 0))), some 64, none⟩, []⟩])
    (.block 4 (.loop (.seq (.region false [⟨⟨.bin .lss 3 .num (.slot 64) (.slot 63), some 65, none⟩, []⟩])
     (.seq (.cond (.slot 65)
      .skip
      (.exit 4))
     (.seq (.block 5 (.seq (.region false [⟨⟨.iaddr 1 (.slot 62) (.slot 64), some 66, none⟩, []⟩,
       ⟨⟨.load false 1 (.slot 66), some 67, none⟩, []⟩,
       ⟨⟨.mv (.slot 67), some 10, none⟩, []⟩])
     (.seq (.seq (.region false [⟨⟨.mv (.slot 10), some 68, none⟩, []⟩,
       ⟨⟨.call (.const (.func 27 [] [])) [(.slot 68)], some 69, none⟩, []⟩,
       ⟨⟨.mv (.slot 4), some 70, none⟩, []⟩,
       ⟨⟨.conv .i64 (.slot 70), some 71, none⟩, []⟩,
       ⟨⟨.bin .eql 3 .num (.slot 69) (.slot 71), some 72, none⟩, []⟩,
       ⟨⟨.mv (.slot 72), some 73, none⟩, []⟩,
       ⟨⟨.mv (.slot 10), some 74, some (73, false)⟩, []⟩,
       ⟨⟨.call (.const (.func 27 [] [])) [(.slot 74)], some 75, some (73, false)⟩, []⟩,
       ⟨⟨.mv (.slot 6), some 76, some (73, false)⟩, []⟩,
       ⟨⟨.call (.const (.func 27 [] [])) [(.slot 76)], some 77, some (73, false)⟩, []⟩,
       ⟨⟨.bin .eql 3 .num (.slot 75) (.slot 77), some 78, some (73, false)⟩, []⟩,
       ⟨⟨.pick (.slot 73) (.const (.bool true)) (.slot 78), some 79, none⟩, []⟩])
     (.cond (.slot 79)
      (.exit 5)
      .skip))
     (.seq (.region true [⟨⟨.mv (.slot 0), some 81, none⟩, []⟩,
       ⟨⟨.mv (.slot 0), some 82, none⟩, []⟩,
       ⟨⟨.nilCheck (.slot 82), some 83, none⟩, []⟩,
       ⟨⟨.faddr 1 (.slot 83), some 84, none⟩, []⟩,
       ⟨⟨.load false 1 (.slot 84), some 85, none⟩, []⟩,
       ⟨⟨.un .neg (.slot 85), some 86, none⟩, []⟩,
       ⟨⟨.mv (.slot 4), some 87, none⟩, []⟩,
       ⟨⟨.un .neg (.slot 87), some 88, none⟩, []⟩,
       ⟨⟨.mv (.slot 6), some 89, none⟩, []⟩,
       ⟨⟨.mv (.slot 0), some 91, none⟩, []⟩,
       ⟨⟨.nilCheck (.slot 91), some 92, none⟩, []⟩,
       ⟨⟨.faddr 1 (.slot 92), some 93, none⟩, []⟩,
       ⟨⟨.load false 1 (.slot 93), some 94, none⟩, []⟩,
       ⟨⟨.un .neg (.slot 94), some 95, none⟩, []⟩,
       ⟨⟨.mv (.slot 4), some 96, none⟩, []⟩,
       ⟨⟨.mv (.slot 10), some 97, none⟩, []⟩,
       ⟨⟨.mv (.slot 0), some 99, none⟩, []⟩,
       ⟨⟨.nilCheck (.slot 99), some 100, none⟩, []⟩,
       ⟨⟨.faddr 1 (.slot 100), some 101, none⟩, []⟩,
       ⟨⟨.load false 1 (.slot 101), some 102, none⟩, []⟩,
       ⟨⟨.mv (.slot 4), some 103, none⟩, []⟩,
       ⟨⟨.un .neg (.slot 103), some 104, none⟩, []⟩,
       ⟨⟨.mv (.slot 6), some 105, none⟩, []⟩,
       ⟨⟨.un .neg (.slot 105), some 106, none⟩, []⟩,
       ⟨⟨.mv (.slot 0), some 108, none⟩, []⟩,
       ⟨⟨.nilCheck (.slot 108), some 109, none⟩, []⟩,
       ⟨⟨.faddr 1 (.slot 109), some 110, none⟩, []⟩,
       ⟨⟨.load false 1 (.slot 110), some 111, none⟩, []⟩,
       ⟨⟨.mv (.slot 4), some 112, none⟩, []⟩,
       ⟨⟨.mv (.slot 10), some 113, none⟩, []⟩,
       ⟨⟨.un .neg (.slot 113), some 114, none⟩, []⟩,
       ⟨⟨.bslice 1 [(.int .i32 (.ofNat 0)), (.int .i32 (.ofNat 0)), (.int .i32 (.ofNat 0))] [(0, 1, (.slot 86)), (1, 1, (.slot 88)), (2, 1, (.slot 89))] 3, some 90, none⟩, [⟨.load false 1 (.slot 93), some 94, none⟩, ⟨.load false 1 (.slot 101), some 102, none⟩, ⟨.load false 1 (.slot 110), some 111, none⟩]⟩,
       ⟨⟨.bslice 1 [(.int .i32 (.ofNat 0)), (.int .i32 (.ofNat 0)), (.int .i32 (.ofNat 0))] [(0, 1, (.slot 95)), (1, 1, (.slot 96)), (2, 1, (.slot 97))] 3, some 98, none⟩, [⟨.load false 1 (.slot 84), some 85, none⟩, ⟨.load false 1 (.slot 101), some 102, none⟩, ⟨.load false 1 (.slot 110), some 111, none⟩]⟩,
       ⟨⟨.bslice 1 [(.int .i32 (.ofNat 0)), (.int .i32 (.ofNat 0)), (.int .i32 (.ofNat 0))] [(0, 1, (.slot 102)), (1, 1, (.slot 104)), (2, 1, (.slot 106))] 3, some 107, none⟩, [⟨.load false 1 (.slot 84), some 85, none⟩, ⟨.load false 1 (.slot 93), some 94, none⟩, ⟨.load false 1 (.slot 110), some 111, none⟩]⟩,
       ⟨⟨.bslice 1 [(.int .i32 (.ofNat 0)), (.int .i32 (.ofNat 0)), (.int .i32 (.ofNat 0))] [(0, 1, (.slot 111)), (1, 1, (.slot 112)), (2, 1, (.slot 114))] 3, some 115, none⟩, [⟨.load false 1 (.slot 84), some 85, none⟩, ⟨.load false 1 (.slot 93), some 94, none⟩, ⟨.load false 1 (.slot 101), some 102, none⟩]⟩,
       ⟨⟨.bslice 1 [.nils, .nils, .nils, .nils] [(0, 1, (.slot 90)), (1, 1, (.slot 98)), (2, 1, (.slot 107)), (3, 1, (.slot 115))] 4, some 116, none⟩, []⟩,
       ⟨⟨.call (.const (.func 36 [] [])) [(.slot 81), (.slot 116)], some 117, none⟩, []⟩,
       ⟨⟨.mv (.slot 117), some 80, none⟩, []⟩,
       ⟨⟨.extract (.slot 80) 0, some 118, none⟩, []⟩,
       ⟨⟨.extract (.slot 80) 1, some 119, none⟩, []⟩,
       ⟨⟨.mv (.slot 118), some 11, none⟩, []⟩,
       ⟨⟨.mv (.slot 119), some 12, none⟩, []⟩])
     (.seq (.region false [⟨⟨.mv (.slot 12), some 120, none⟩, []⟩])
     (.cond (.slot 120)
      (.region false [⟨⟨.mv (.slot 2), some 121, none⟩, []⟩,
        ⟨⟨.mv (.slot 0), some 122, none⟩, []⟩,
        ⟨⟨.nilCheck (.slot 122), some 123, none⟩, []⟩,
        ⟨⟨.faddr 1 (.slot 123), some 124, none⟩, []⟩,
        ⟨⟨.load false 1 (.slot 124), some 125, none⟩, []⟩,
        ⟨⟨.mv (.slot 4), some 126, none⟩, []⟩,
        ⟨⟨.mv (.slot 6), some 127, none⟩, []⟩,
        ⟨⟨.mv (.slot 10), some 128, none⟩, []⟩,
        ⟨⟨.bslice 1 [(.int .i32 (.ofNat 0)), (.int .i32 (.ofNat 0)), (.int .i32 (.ofNat 0))] [(0, 1, (.slot 126)), (1, 1, (.slot 127)), (2, 1, (.slot 128))] 3, some 129, none⟩, []⟩,
        ⟨⟨.mv (.slot 11), some 130, none⟩, []⟩,
        ⟨⟨.build [(.int .u8 (.ofNat 0)), (.int .i32 (.ofNat 0)), .nils, .nils] [(0, 1, (.const (.int .u8 (.ofNat 4)))), (1, 1, (.slot 125)), (2, 1, (.slot 129)), (3, 1, (.slot 130))], some 131, none⟩, []⟩,
        ⟨⟨.bslice 4 [(.int .u8 (.ofNat 0)), (.int .i32 (.ofNat 0)), .nils, .nils] [(0, 4, (.slot 131))] 1, some 132, none⟩, []⟩,
        ⟨⟨.append 4 56 (.slot 121) (.slot 132), some 133, none⟩, []⟩,
        ⟨⟨.mv (.slot 133), some 2, none⟩, []⟩])
      .skip))))))
     (.region false [⟨⟨.bin .add 3 .num (.slot 64) (.const (.int .i64 (.ofNat 1))), some 134, none⟩, []⟩,
       ⟨⟨.mv (.slot 134), some 64, none⟩, []⟩]))))))))))
    (.region false [⟨⟨.bin .add 3 .num (.slot 27) (.const (.int .i64 (.ofNat 1))), some 135, none⟩, []⟩,
      ⟨⟨.mv (.slot 135), some 27, none⟩, []⟩])))))))))
   (.region false [⟨⟨.bin .add 3 .num (.slot 18) (.const (.int .i64 (.ofNat 1))), some 136, none⟩, []⟩,
     ⟨⟨.mv (.slot 136), some 18, none⟩, []⟩])))))))
  (.seq (.region false [⟨⟨.mv (.slot 2), some 137, none⟩, []⟩,
    ⟨⟨.mv (.slot 137), some 2, none⟩, []⟩])
  .ret))),
  [.tmp 2]⟩
theorem xf18_ok : compFunc Tryz.prog Tryz.f18 = some xf18 := by kernel_rfl
/-- (*threshing/base.Base).full -/
def xf19 : XFunc := ⟨(.seq (.region false [⟨⟨.mv (.const (.bool false)), some 2, none⟩, []⟩])
  (.seq (.region false [⟨⟨.mv (.slot 0), some 3, none⟩, []⟩,
    ⟨⟨.nilCheck (.slot 3), some 4, none⟩, []⟩,
    ⟨⟨.faddr 5 (.slot 4), some 5, none⟩, []⟩,
    ⟨⟨.load false 1 (.slot 5), some 6, none⟩, []⟩,
    ⟨⟨.len .slice (.slot 6), some 7, none⟩, []⟩,
    ⟨⟨.bin .geq 3 .num (.slot 7) (.const (.int .i64 (.ofNat 4194304))), some 8, none⟩, []⟩,
    ⟨⟨.mv (.slot 8), some 2, none⟩, []⟩])
  .ret)),
  [.tmp 2]⟩
theorem xf19_ok : compFunc Tryz.prog Tryz.f19 = some xf19 := by kernel_rfl
/-- (*threshing/base.Base).right -/
def xf20 : XFunc := ⟨(.seq (.region false [⟨⟨.box (.slot 0), some 2, none⟩, []⟩,
    ⟨⟨.mv (.const (.bool false)), some 4, none⟩, []⟩])
  (.seq (.region false [⟨⟨.mv (.slot 1), some 5, none⟩, []⟩,
    ⟨⟨.mkfunc 40 [] [(.slot 2)], some 6, none⟩, []⟩,
    ⟨⟨.call (.const (.func 39 [] [])) [(.slot 5), (.slot 6)], some 7, none⟩, []⟩,
    ⟨⟨.un .not (.slot 7), some 8, none⟩, []⟩,
    ⟨⟨.mv (.slot 8), some 4, none⟩, []⟩])
  .ret)),
  [.tmp 4]⟩
theorem xf20_ok : compFunc Tryz.prog Tryz.f20 = some xf20 := by kernel_rfl
/-- (*threshing/base.Base).follows -/
def xf21 : XFunc := ⟨(.seq (.region false [⟨⟨.mv (.const (.int .i64 (.ofNat 0))), some 6, none⟩, []⟩])
  (.seq (.region false [⟨⟨.mkmap .i32, some 18, none⟩, []⟩,
    ⟨⟨.alloc [.nilm], some 7, none⟩, []⟩,
    ⟨⟨.store 1 (.slot 7) (.slot 18), none, none⟩, []⟩])
  (.seq (.region false [⟨⟨.mkfunc 41 [] [(.slot 7)], some 19, none⟩, []⟩,
    ⟨⟨.mv (.slot 19), some 8, none⟩, []⟩])
  (.seq (.seq (.region false [⟨⟨.mv (.slot 1), some 20, none⟩, []⟩,
    ⟨⟨.len .slice (.slot 20), some 21, none⟩, []⟩,
    ⟨⟨.mv (.const (.int .i64 (.ofNat 0))), some 22, none⟩, []⟩])
  (.block 0 (.loop (.seq (.region false [⟨⟨.bin .lss 3 .num (.slot 22) (.slot 21), some 23, none⟩, []⟩])
   (.seq (.cond (.slot 23)
    .skip
    (.exit 0))
   (.seq (.block 1 (.seq (.region false [⟨⟨.iaddr 1 (.slot 20) (.slot 22), some 24, none⟩, []⟩,
     ⟨⟨.load false 1 (.slot 24), some 25, none⟩, []⟩,
     ⟨⟨.mv (.slot 25), some 10, none⟩, []⟩])
   (.seq (.region false [⟨⟨.mv (.slot 8), some 26, none⟩, []⟩,
     ⟨⟨.mv (.slot 10), some 27, none⟩, []⟩,
     ⟨⟨.call (.slot 26) [(.slot 27)], some 28, none⟩, []⟩])
   (.cond (.slot 28)
    (.seq (.region false [⟨⟨.mv (.const (.int .i64 (.ofNat 0))), some 6, none⟩, []⟩])
    .ret)
    .skip))))
   (.region false [⟨⟨.bin .add 3 .num (.slot 22) (.const (.int .i64 (.ofNat 1))), some 29, none⟩, []⟩,
     ⟨⟨.mv (.slot 29), some 22, none⟩, []⟩])))))))
  (.seq (.seq (.region false [⟨⟨.mv (.slot 2), some 30, none⟩, []⟩,
    ⟨⟨.len .slice (.slot 30), some 31, none⟩, []⟩,
    ⟨⟨.mv (.const (.int .i64 (.ofNat 0))), some 32, none⟩, []⟩])
  (.block 2 (.loop (.seq (.region false [⟨⟨.bin .lss 3 .num (.slot 32) (.slot 31), some 33, none⟩, []⟩])
   (.seq (.cond (.slot 33)
    .skip
    (.exit 2))
   (.seq (.block 3 (.seq (.region false [⟨⟨.iaddr 1 (.slot 30) (.slot 32), some 34, none⟩, []⟩,
     ⟨⟨.load false 1 (.slot 34), some 35, none⟩, []⟩,
     ⟨⟨.mv (.slot 35), some 12, none⟩, []⟩])
   (.seq (.region false [⟨⟨.mv (.slot 0), some 37, none⟩, []⟩,
     ⟨⟨.nilCheck (.slot 37), some 38, none⟩, []⟩,
     ⟨⟨.faddr 1 (.slot 38), some 39, none⟩, []⟩,
     ⟨⟨.load false 1 (.slot 39), some 40, none⟩, []⟩,
     ⟨⟨.mv (.slot 12), some 41, none⟩, []⟩,
     ⟨⟨.lookup .i64 (.agg [(.int .i64 (.ofNat 0)), .nils, (.bool false)]) (.slot 40) (.slot 41) true, some 42, none⟩, []⟩,
     ⟨⟨.mv (.slot 42), some 36, none⟩, []⟩,
     ⟨⟨.extract (.slot 36) 0, some 43, none⟩, []⟩,
     ⟨⟨.extract (.slot 36) 1, some 44, none⟩, []⟩,
     ⟨⟨.alloc [(.int .i64 (.ofNat 0)), .nils, (.bool false)], some 13, none⟩, []⟩,
     ⟨⟨.store 3 (.slot 13) (.slot 43), none, none⟩, []⟩,
     ⟨⟨.mv (.slot 44), some 14, none⟩, []⟩])
   (.seq (.seq (.region false [⟨⟨.mv (.slot 14), some 45, none⟩, []⟩,
     ⟨⟨.un .not (.slot 45), some 46, none⟩, []⟩])
   (.cond (.slot 46)
    (.seq (.region false [⟨⟨.mv (.const (.int .i64 (.ofNat 60))), some 6, none⟩, []⟩])
    .ret)
    .skip))
   (.seq (.region false [⟨⟨.mv (.const (.int .i32 (.ofNat 0))), some 15, none⟩, []⟩])
   (.seq (.seq (.region false [⟨⟨.faddr 1 (.slot 13), some 47, none⟩, []⟩,
     ⟨⟨.load false 1 (.slot 47), some 48, none⟩, []⟩,
     ⟨⟨.len .slice (.slot 48), some 49, none⟩, []⟩,
     ⟨⟨.mv (.const (.int .i64 (.ofNat 0))), some 50, none⟩, []⟩])
   (.block 4 (.loop (.seq (.region false [⟨⟨.bin .lss 3 .num (.slot 50) (.slot 49), some 51, none⟩, []⟩])
    (.seq (.cond (.slot 51)
     .skip
     (.exit 4))
    (.seq (.block 5 (.seq (.region false [⟨⟨.iaddr 1 (.slot 48) (.slot 50), some 52, none⟩, []⟩,
      ⟨⟨.load false 1 (.slot 52), some 53, none⟩, []⟩,
      ⟨⟨.mv (.slot 53), some 17, none⟩, []⟩])
    (.block 6 (.seq (.seq (.region false [⟨⟨.load false 1 (.slot 7), some 56, none⟩, []⟩,
      ⟨⟨.mv (.slot 17), some 57, none⟩, []⟩,
      ⟨⟨.lookup .i32 (.bool false) (.slot 56) (.slot 57) false, some 58, none⟩, []⟩,
      ⟨⟨.mv (.slot 58), some 55, none⟩, []⟩])
    (.cond (.slot 55)
     .skip
     (.region false [⟨⟨.mv (.slot 17), some 59, none⟩, []⟩,
       ⟨⟨.mv (.slot 15), some 60, none⟩, []⟩,
       ⟨⟨.bin .eql 23 .num (.slot 59) (.slot 60), some 61, none⟩, []⟩,
       ⟨⟨.mv (.slot 61), some 55, none⟩, []⟩])))
    (.cond (.slot 55)
     .skip
     (.seq (.region false [⟨⟨.mv (.slot 15), some 63, none⟩, []⟩,
       ⟨⟨.bin .neq 23 .num (.slot 63) (.const (.int .i32 (.ofNat 0))), some 64, none⟩, []⟩,
       ⟨⟨.mv (.slot 64), some 62, none⟩, []⟩])
     (.cond (.slot 62)
      (.seq (.region false [⟨⟨.mv (.const (.int .i64 (.ofNat 60))), some 6, none⟩, []⟩])
      .ret)
      (.region false [⟨⟨.mv (.slot 17), some 54, none⟩, []⟩,
        ⟨⟨.mv (.slot 54), some 15, none⟩, []⟩]))))))))
    (.region false [⟨⟨.bin .add 3 .num (.slot 50) (.const (.int .i64 (.ofNat 1))), some 65, none⟩, []⟩,
      ⟨⟨.mv (.slot 65), some 50, none⟩, []⟩])))))))
   (.seq (.block 7 (.seq (.region false [⟨⟨.mv (.slot 15), some 67, none⟩, []⟩,
     ⟨⟨.bin .eql 23 .num (.slot 67) (.const (.int .i32 (.ofNat 0))), some 68, none⟩, []⟩,
     ⟨⟨.mv (.slot 68), some 66, none⟩, []⟩])
   (.cond (.slot 66)
    (.seq (.region false [⟨⟨.mv (.const (.int .i64 (.ofNat 0))), some 6, none⟩, []⟩])
    .ret)
    (.seq (.region false [⟨⟨.load false 1 (.slot 7), some 70, none⟩, []⟩,
      ⟨⟨.mv (.slot 15), some 71, none⟩, []⟩,
      ⟨⟨.un .neg (.slot 71), some 72, none⟩, []⟩,
      ⟨⟨.lookup .i32 (.bool false) (.slot 70) (.slot 72) false, some 73, none⟩, []⟩,
      ⟨⟨.mv (.slot 73), some 69, none⟩, []⟩])
    (.cond (.slot 69)
     (.seq (.region false [⟨⟨.mv (.const (.int .i64 (.ofNat 60))), some 6, none⟩, []⟩])
     .ret)
     .skip)))))
   (.region false [⟨⟨.mv (.slot 8), some 74, none⟩, []⟩,
     ⟨⟨.mv (.slot 15), some 75, none⟩, []⟩,
     ⟨⟨.un .neg (.slot 75), some 76, none⟩, []⟩,
     ⟨⟨.call (.slot 74) [(.slot 76)], some 77, none⟩, []⟩]))))))))
   (.region false [⟨⟨.bin .add 3 .num (.slot 32) (.const (.int .i64 (.ofNat 1))), some 78, none⟩, []⟩,
     ⟨⟨.mv (.slot 78), some 32, none⟩, []⟩])))))))
  (.seq (.region false [⟨⟨.mv (.const (.int .i64 (.ofNat 61))), some 6, none⟩, []⟩])
  .ret)))))),
  [.tmp 6]⟩
theorem xf21_ok : compFunc Tryz.prog Tryz.f21 = some xf21 := by kernel_rfl
/-- (*threshing/base.Base).put -/
def xf22 : XFunc := ⟨(.seq (.region false [⟨⟨.mv (.slot 0), some 8, none⟩, []⟩,
    ⟨⟨.nilCheck (.slot 8), some 9, none⟩, []⟩,
    ⟨⟨.faddr 4 (.slot 9), some 10, none⟩, []⟩,
    ⟨⟨.load false 1 (.slot 10), some 11, none⟩, []⟩,
    ⟨⟨.bin .add 2 .num (.slot 11) (.const (.int .i64 (.ofNat 1))), some 12, none⟩, []⟩,
    ⟨⟨.nilCheck (.slot 8), some 13, none⟩, []⟩,
    ⟨⟨.faddr 4 (.slot 13), some 14, none⟩, []⟩,
    ⟨⟨.store 1 (.slot 14) (.slot 12), none, none⟩, []⟩])
  (.seq (.region true [⟨⟨.mv (.slot 0), some 15, none⟩, []⟩,
    ⟨⟨.nilCheck (.slot 15), some 16, none⟩, []⟩,
    ⟨⟨.faddr 1 (.slot 16), some 17, none⟩, []⟩,
    ⟨⟨.load false 1 (.slot 17), some 18, none⟩, []⟩,
    ⟨⟨.mv (.slot 0), some 19, none⟩, []⟩,
    ⟨⟨.nilCheck (.slot 19), some 20, none⟩, []⟩,
    ⟨⟨.faddr 4 (.slot 20), some 21, none⟩, []⟩,
    ⟨⟨.load false 1 (.slot 21), some 22, none⟩, []⟩,
    ⟨⟨.mv (.slot 0), some 23, none⟩, []⟩,
    ⟨⟨.nilCheck (.slot 23), some 24, none⟩, []⟩,
    ⟨⟨.faddr 4 (.slot 24), some 25, none⟩, []⟩,
    ⟨⟨.load false 1 (.slot 25), some 26, none⟩, []⟩,
    ⟨⟨.mv (.slot 1), some 27, none⟩, []⟩,
    ⟨⟨.mv (.slot 2), some 29, none⟩, []⟩,
    ⟨⟨.call (.const (.func 23 [] [])) [(.slot 27)], some 28, none⟩, [⟨.load false 1 (.slot 17), some 18, none⟩, ⟨.load false 1 (.slot 21), some 22, none⟩, ⟨.load false 1 (.slot 25), some 26, none⟩]⟩,
    ⟨⟨.build [(.int .i64 (.ofNat 0)), .nils, (.bool false)] [(0, 1, (.slot 26)), (1, 1, (.slot 28)), (2, 1, (.slot 29))], some 30, none⟩, []⟩,
    ⟨⟨.mapup .i64 (.slot 18) (.slot 22) (.slot 30), none, none⟩, []⟩])
  (.seq (.seq (.region false [⟨⟨.mv (.slot 1), some 31, none⟩, []⟩,
    ⟨⟨.len .slice (.slot 31), some 32, none⟩, []⟩,
    ⟨⟨.bin .eql 3 .num (.slot 32) (.const (.int .i64 (.ofNat 0))), some 33, none⟩, []⟩])
  (.cond (.slot 33)
   (.region true [⟨⟨.mv (.slot 0), some 34, none⟩, []⟩,
     ⟨⟨.nilCheck (.slot 34), some 35, none⟩, []⟩,
     ⟨⟨.faddr 3 (.slot 35), some 36, none⟩, []⟩,
     ⟨⟨.load false 1 (.slot 36), some 37, none⟩, []⟩,
     ⟨⟨.mv (.slot 0), some 38, none⟩, []⟩,
     ⟨⟨.nilCheck (.slot 38), some 39, none⟩, []⟩,
     ⟨⟨.faddr 4 (.slot 39), some 40, none⟩, []⟩,
     ⟨⟨.load false 1 (.slot 40), some 41, none⟩, []⟩,
     ⟨⟨.mapup .i64 (.slot 37) (.slot 41) (.const (.bool true)), none, none⟩, []⟩])
   .skip))
  (.seq (.region false [⟨⟨.mv (.slot 1), some 42, none⟩, []⟩,
    ⟨⟨.len .slice (.slot 42), some 43, none⟩, []⟩,
    ⟨⟨.mv (.const (.int .i64 (.ofNat 0))), some 44, none⟩, []⟩])
  (.block 0 (.loop (.seq (.region false [⟨⟨.bin .lss 3 .num (.slot 44) (.slot 43), some 45, none⟩, []⟩])
   (.seq (.cond (.slot 45)
    .skip
    (.exit 0))
   (.seq (.block 1 (.seq (.region false [⟨⟨.iaddr 1 (.slot 42) (.slot 44), some 46, none⟩, []⟩,
     ⟨⟨.load false 1 (.slot 46), some 47, none⟩, []⟩,
     ⟨⟨.mv (.slot 47), some 7, none⟩, []⟩])
   (.seq (.seq (.region false [⟨⟨.mv (.slot 0), some 48, none⟩, []⟩,
     ⟨⟨.nilCheck (.slot 48), some 49, none⟩, []⟩,
     ⟨⟨.faddr 2 (.slot 49), some 50, none⟩, []⟩,
     ⟨⟨.load false 1 (.slot 50), some 51, none⟩, []⟩,
     ⟨⟨.mv (.slot 7), some 52, none⟩, []⟩,
     ⟨⟨.lookup .i32 .nilm (.slot 51) (.slot 52) false, some 53, none⟩, []⟩,
     ⟨⟨.bin .eql 59 .map (.slot 53) (.const .nilm), some 54, none⟩, []⟩])
   (.cond (.slot 54)
    (.region false [⟨⟨.mv (.slot 0), some 55, none⟩, []⟩,
      ⟨⟨.nilCheck (.slot 55), some 56, none⟩, []⟩,
      ⟨⟨.faddr 2 (.slot 56), some 57, none⟩, []⟩,
      ⟨⟨.load false 1 (.slot 57), some 58, none⟩, []⟩,
      ⟨⟨.mv (.slot 7), some 59, none⟩, []⟩,
      ⟨⟨.mkmap .i64, some 60, none⟩, []⟩,
      ⟨⟨.mapup .i32 (.slot 58) (.slot 59) (.slot 60), none, none⟩, []⟩])
    .skip))
   (.region true [⟨⟨.mv (.slot 0), some 61, none⟩, []⟩,
     ⟨⟨.nilCheck (.slot 61), some 62, none⟩, []⟩,
     ⟨⟨.faddr 2 (.slot 62), some 63, none⟩, []⟩,
     ⟨⟨.load false 1 (.slot 63), some 64, none⟩, []⟩,
     ⟨⟨.mv (.slot 7), some 65, none⟩, []⟩,
     ⟨⟨.lookup .i32 .nilm (.slot 64) (.slot 65) false, some 66, none⟩, []⟩,
     ⟨⟨.mv (.slot 0), some 67, none⟩, []⟩,
     ⟨⟨.nilCheck (.slot 67), some 68, none⟩, []⟩,
     ⟨⟨.faddr 4 (.slot 68), some 69, none⟩, []⟩,
     ⟨⟨.load false 1 (.slot 69), some 70, none⟩, []⟩,
     ⟨⟨.mapup .i64 (.slot 66) (.slot 70) (.const (.bool true)), none, none⟩, []⟩]))))
   (.region false [⟨⟨.bin .add 3 .num (.slot 44) (.const (.int .i64 (.ofNat 1))), some 71, none⟩, []⟩,
     ⟨⟨.mv (.slot 71), some 44, none⟩, []⟩])))))))))),
  []⟩
theorem xf22_ok : compFunc Tryz.prog Tryz.f22 = some xf22 := by kernel_rfl
/-- slices.Clone[threshing/api.Clause,threshing/api.Lit] -/
def xf23 : XFunc := ⟨(.seq (.region false [⟨⟨.mv (.const .nils), some 2, none⟩, []⟩])
  (.seq (.seq (.region false [⟨⟨.mv (.slot 0), some 3, none⟩, []⟩,
    ⟨⟨.bin .eql 25 .slice (.slot 3) (.const .nils), some 4, none⟩, []⟩])
  (.cond (.slot 4)
   (.seq (.region false [⟨⟨.mv (.const .nils), some 2, none⟩, []⟩])
   .ret)
   .skip))
  (.seq (.region false [⟨⟨.bslice 1 [] [] 0, some 5, none⟩, []⟩,
    ⟨⟨.mv (.slot 0), some 6, none⟩, []⟩,
    ⟨⟨.append 1 4 (.slot 5) (.slot 6), some 7, none⟩, []⟩,
    ⟨⟨.mv (.slot 7), some 2, none⟩, []⟩])
  .ret))),
  [.tmp 2]⟩
theorem xf23_ok : compFunc Tryz.prog Tryz.f23 = some xf23 := by kernel_rfl
/-- slices.Clone[[]int64,int64] -/
def xf24 : XFunc := ⟨(.seq (.region false [⟨⟨.mv (.const .nils), some 2, none⟩, []⟩])
  (.seq (.seq (.region false [⟨⟨.mv (.slot 0), some 3, none⟩, []⟩,
    ⟨⟨.bin .eql 26 .slice (.slot 3) (.const .nils), some 4, none⟩, []⟩])
  (.cond (.slot 4)
   (.seq (.region false [⟨⟨.mv (.const .nils), some 2, none⟩, []⟩])
   .ret)
   .skip))
  (.seq (.region false [⟨⟨.bslice 1 [] [] 0, some 5, none⟩, []⟩,
    ⟨⟨.mv (.slot 0), some 6, none⟩, []⟩,
    ⟨⟨.append 1 8 (.slot 5) (.slot 6), some 7, none⟩, []⟩,
    ⟨⟨.mv (.slot 7), some 2, none⟩, []⟩])
  .ret))),
  [.tmp 2]⟩
theorem xf24_ok : compFunc Tryz.prog Tryz.f24 = some xf24 := by kernel_rfl
/-- (*threshing/base.Base).note -/
def xf25 : XFunc := ⟨(.seq (.region false [⟨⟨.box (.slot 1), some 3, none⟩, []⟩,
    ⟨⟨.mv (.const (.int .i64 (.ofNat 0))), some 4, none⟩, []⟩])
  (.seq (.region true [⟨⟨.mv (.slot 0), some 5, none⟩, []⟩,
    ⟨⟨.mv (.slot 0), some 6, none⟩, []⟩,
    ⟨⟨.nilCheck (.slot 6), some 7, none⟩, []⟩,
    ⟨⟨.faddr 7 (.slot 7), some 8, none⟩, []⟩,
    ⟨⟨.load false 1 (.slot 8), some 9, none⟩, []⟩,
    ⟨⟨.load true 6 (.slot 3), some 10, none⟩, []⟩,
    ⟨⟨.bslice 6 [(.int .u8 (.ofNat 0)), (.int .i64 (.ofNat 0)), (.int .i64 (.ofNat 0)), (.bool false), .nils, .nils] [(0, 6, (.slot 10))] 1, some 11, none⟩, [⟨.load false 1 (.slot 8), some 9, none⟩]⟩,
    ⟨⟨.append 6 80 (.slot 9) (.slot 11), some 12, none⟩, []⟩,
    ⟨⟨.nilCheck (.slot 5), some 13, none⟩, []⟩,
    ⟨⟨.faddr 7 (.slot 13), some 14, none⟩, []⟩,
    ⟨⟨.store 1 (.slot 14) (.slot 12), none, none⟩, []⟩])
  (.seq (.region false [⟨⟨.mv (.const (.int .i64 (.ofNat 0))), some 4, none⟩, []⟩])
  .ret))),
  [.tmp 4]⟩
theorem xf25_ok : compFunc Tryz.prog Tryz.f25 = some xf25 := by kernel_rfl
/-- (threshing/gates.Gate).Value$1 -/
def xf26 : XFunc := ⟨(.seq (.region false [⟨⟨.mv (.const (.bool false)), some 4, none⟩, []⟩])
  (.seq (.region false [⟨⟨.faddr 2 (.slot 1), some 6, none⟩, []⟩,
    ⟨⟨.load false 1 (.slot 6), some 7, none⟩, []⟩,
    ⟨⟨.mv (.slot 0), some 8, none⟩, []⟩,
    ⟨⟨.iaddr 1 (.slot 7) (.slot 8), some 9, none⟩, []⟩,
    ⟨⟨.load false 1 (.slot 9), some 10, none⟩, []⟩,
    ⟨⟨.call (.const (.func 27 [] [])) [(.slot 10)], some 11, none⟩, []⟩,
    ⟨⟨.mv (.slot 11), some 5, none⟩, []⟩])
  (.seq (.region true [⟨⟨.mv (.slot 5), some 12, none⟩, []⟩,
    ⟨⟨.bin .geq 3 .num (.slot 12) (.const (.int .i64 (.ofNat 1))), some 13, none⟩, []⟩,
    ⟨⟨.mv (.slot 13), some 14, none⟩, []⟩,
    ⟨⟨.mv (.slot 5), some 15, some (14, true)⟩, []⟩,
    ⟨⟨.load false 1 (.slot 2), some 16, some (14, true)⟩, []⟩,
    ⟨⟨.len .slice (.slot 16), some 17, some (14, true)⟩, []⟩,
    ⟨⟨.bin .leq 3 .num (.slot 15) (.slot 17), some 18, some (14, true)⟩, []⟩,
    ⟨⟨.pick (.slot 14) (.slot 18) (.const (.bool false)), some 19, none⟩, []⟩,
    ⟨⟨.mv (.slot 19), some 20, none⟩, []⟩,
    ⟨⟨.load false 1 (.slot 2), some 21, some (20, true)⟩, []⟩,
    ⟨⟨.mv (.slot 5), some 22, some (20, true)⟩, []⟩,
    ⟨⟨.bin .sub 3 .num (.slot 22) (.const (.int .i64 (.ofNat 1))), some 23, some (20, true)⟩, []⟩,
    ⟨⟨.iaddr 1 (.slot 21) (.slot 23), some 24, some (20, true)⟩, []⟩,
    ⟨⟨.load false 1 (.slot 24), some 25, some (20, true)⟩, []⟩,
    ⟨⟨.faddr 2 (.slot 1), some 26, some (20, true)⟩, []⟩,
    ⟨⟨.load false 1 (.slot 26), some 27, some (20, true)⟩, []⟩,
    ⟨⟨.mv (.slot 0), some 28, some (20, true)⟩, []⟩,
    ⟨⟨.iaddr 1 (.slot 27) (.slot 28), some 29, some (20, true)⟩, []⟩,
    ⟨⟨.load false 1 (.slot 29), some 30, some (20, true)⟩, []⟩,
    ⟨⟨.bin .gtr 23 .num (.slot 30) (.const (.int .i32 (.ofNat 0))), some 31, some (20, true)⟩, []⟩,
    ⟨⟨.bin .eql 4 .bool (.slot 25) (.slot 31), some 32, some (20, true)⟩, []⟩,
    ⟨⟨.pick (.slot 20) (.slot 32) (.const (.bool false)), some 33, none⟩, []⟩,
    ⟨⟨.mv (.slot 33), some 4, none⟩, []⟩])
  .ret))),
  [.tmp 4]⟩
theorem xf26_ok : compFunc Tryz.prog Tryz.f26 = some xf26 := by kernel_rfl
/-- threshing/cnf.Var -/
def xf27 : XFunc := ⟨(.seq (.region false [⟨⟨.mv (.const (.int .i64 (.ofNat 0))), some 2, none⟩, []⟩])
  (.seq (.region false [⟨⟨.mv (.slot 0), some 3, none⟩, []⟩,
    ⟨⟨.call (.const (.func 42 [] [])) [(.slot 3)], some 4, none⟩, []⟩,
    ⟨⟨.mv (.slot 4), some 2, none⟩, []⟩])
  .ret)),
  [.tmp 2]⟩
theorem xf27_ok : compFunc Tryz.prog Tryz.f27 = some xf27 := by kernel_rfl
/-- threshing/cnf.Right -/
def xf28 : XFunc := ⟨(.seq (.region false [⟨⟨.box (.slot 0), some 1, none⟩, []⟩,
    ⟨⟨.mv (.const (.int .i64 (.ofNat 0))), some 2, none⟩, []⟩])
  (.seq (.block 0 (.seq (.seq (.region false [⟨⟨.faddr 0 (.slot 1), some 9, none⟩, []⟩,
    ⟨⟨.load false 1 (.slot 9), some 10, none⟩, []⟩,
    ⟨⟨.bin .lss 3 .num (.slot 10) (.const (.int .i64 (.ofNat 0))), some 11, none⟩, []⟩,
    ⟨⟨.mv (.slot 11), some 8, none⟩, []⟩])
  (.cond (.slot 8)
   .skip
   (.region false [⟨⟨.faddr 0 (.slot 1), some 12, none⟩, []⟩,
     ⟨⟨.load false 1 (.slot 12), some 13, none⟩, []⟩,
     ⟨⟨.bin .gtr 3 .num (.slot 13) (.const (.int .i64 (.ofNat 1048576))), some 14, none⟩, []⟩,
     ⟨⟨.mv (.slot 14), some 8, none⟩, []⟩])))
  (.cond (.slot 8)
   (.seq (.region false [⟨⟨.mv (.const (.int .i64 (.ofNat 2))), some 2, none⟩, []⟩])
   .ret)
   (.seq (.region false [⟨⟨.faddr 1 (.slot 1), some 16, none⟩, []⟩,
     ⟨⟨.load false 1 (.slot 16), some 17, none⟩, []⟩,
     ⟨⟨.len .slice (.slot 17), some 18, none⟩, []⟩,
     ⟨⟨.bin .gtr 3 .num (.slot 18) (.const (.int .i64 (.ofNat 1048576))), some 19, none⟩, []⟩,
     ⟨⟨.mv (.slot 19), some 15, none⟩, []⟩])
   (.cond (.slot 15)
    (.seq (.region false [⟨⟨.mv (.const (.int .i64 (.ofNat 3))), some 2, none⟩, []⟩])
    .ret)
    .skip)))))
  (.seq (.region false [⟨⟨.mv (.const (.int .i64 (.ofNat 16777216))), some 3, none⟩, []⟩])
  (.seq (.seq (.region false [⟨⟨.faddr 1 (.slot 1), some 20, none⟩, []⟩,
    ⟨⟨.load false 1 (.slot 20), some 21, none⟩, []⟩,
    ⟨⟨.len .slice (.slot 21), some 22, none⟩, []⟩,
    ⟨⟨.mv (.const (.int .i64 (.ofNat 0))), some 23, none⟩, []⟩])
  (.block 1 (.loop (.seq (.region false [⟨⟨.bin .lss 3 .num (.slot 23) (.slot 22), some 24, none⟩, []⟩])
   (.seq (.cond (.slot 24)
    .skip
    (.exit 1))
   (.seq (.block 2 (.seq (.region false [⟨⟨.iaddr 1 (.slot 21) (.slot 23), some 25, none⟩, []⟩,
     ⟨⟨.load false 1 (.slot 25), some 26, none⟩, []⟩,
     ⟨⟨.mv (.slot 26), some 5, none⟩, []⟩])
   (.seq (.region false [⟨⟨.mv (.slot 5), some 27, none⟩, []⟩,
     ⟨⟨.len .slice (.slot 27), some 28, none⟩, []⟩,
     ⟨⟨.mv (.const (.int .i64 (.ofNat 0))), some 29, none⟩, []⟩])
   (.block 3 (.loop (.seq (.region false [⟨⟨.bin .lss 3 .num (.slot 29) (.slot 28), some 30, none⟩, []⟩])
    (.seq (.cond (.slot 30)
     .skip
     (.exit 3))
    (.seq (.block 4 (.seq (.region false [⟨⟨.iaddr 1 (.slot 27) (.slot 29), some 31, none⟩, []⟩,
      ⟨⟨.load false 1 (.slot 31), some 32, none⟩, []⟩,
      ⟨⟨.mv (.slot 32), some 7, none⟩, []⟩])
    (.seq (.seq (.region false [⟨⟨.mv (.slot 3), some 33, none⟩, []⟩,
      ⟨⟨.bin .eql 3 .num (.slot 33) (.const (.int .i64 (.ofNat 0))), some 34, none⟩, []⟩])
    (.cond (.slot 34)
     (.seq (.region false [⟨⟨.mv (.const (.int .i64 (.ofNat 3))), some 2, none⟩, []⟩])
     .ret)
     .skip))
    (.seq (.region false [⟨⟨.mv (.slot 3), some 35, none⟩, []⟩,
      ⟨⟨.bin .sub 3 .num (.slot 35) (.const (.int .i64 (.ofNat 1))), some 36, none⟩, []⟩,
      ⟨⟨.mv (.slot 36), some 3, none⟩, []⟩])
    (.seq (.region true [⟨⟨.mv (.slot 7), some 37, none⟩, []⟩,
      ⟨⟨.bin .eql 23 .num (.slot 37) (.const (.int .i32 (.ofNat 0))), some 38, none⟩, []⟩,
      ⟨⟨.mv (.slot 38), some 39, none⟩, []⟩,
      ⟨⟨.mv (.slot 7), some 40, some (39, false)⟩, []⟩,
      ⟨⟨.faddr 0 (.slot 1), some 42, some (39, false)⟩, []⟩,
      ⟨⟨.load false 1 (.slot 42), some 43, some (39, false)⟩, []⟩,
      ⟨⟨.call (.const (.func 27 [] [])) [(.slot 40)], some 41, some (39, false)⟩, [⟨.load false 1 (.slot 42), some 43, some (39, false)⟩]⟩,
      ⟨⟨.bin .gtr 3 .num (.slot 41) (.slot 43), some 44, some (39, false)⟩, []⟩,
      ⟨⟨.pick (.slot 39) (.const (.bool true)) (.slot 44), some 45, none⟩, []⟩])
    (.cond (.slot 45)
     (.seq (.region false [⟨⟨.mv (.const (.int .i64 (.ofNat 4))), some 2, none⟩, []⟩])
     .ret)
     .skip))))))
    (.region false [⟨⟨.bin .add 3 .num (.slot 29) (.const (.int .i64 (.ofNat 1))), some 46, none⟩, []⟩,
      ⟨⟨.mv (.slot 46), some 29, none⟩, []⟩])))))))))
   (.region false [⟨⟨.bin .add 3 .num (.slot 23) (.const (.int .i64 (.ofNat 1))), some 47, none⟩, []⟩,
     ⟨⟨.mv (.slot 47), some 23, none⟩, []⟩])))))))
  (.seq (.region false [⟨⟨.mv (.const (.int .i64 (.ofNat 0))), some 2, none⟩, []⟩])
  .ret))))),
  [.tmp 2]⟩
theorem xf28_ok : compFunc Tryz.prog Tryz.f28 = some xf28 := by kernel_rfl
/-- slices.Concat[[]int64,int64] -/
def xf29 : XFunc := ⟨(.seq (.region false [⟨⟨.mv (.const .nils), some 2, none⟩, []⟩])
  (.seq (.region false [⟨⟨.mv (.const (.int .i64 (.ofNat 0))), some 3, none⟩, []⟩])
  (.seq (.seq (.region false [⟨⟨.mv (.slot 0), some 9, none⟩, []⟩,
    ⟨⟨.len .slice (.slot 9), some 10, none⟩, []⟩,
    ⟨⟨.mv (.const (.int .i64 (.ofNat 0))), some 11, none⟩, []⟩])
  (.block 0 (.loop (.seq (.region false [⟨⟨.bin .lss 3 .num (.slot 11) (.slot 10), some 12, none⟩, []⟩])
   (.seq (.cond (.slot 12)
    .skip
    (.exit 0))
   (.seq (.block 1 (.seq (.region false [⟨⟨.iaddr 1 (.slot 9) (.slot 11), some 13, none⟩, []⟩,
     ⟨⟨.load false 1 (.slot 13), some 14, none⟩, []⟩,
     ⟨⟨.mv (.slot 14), some 5, none⟩, []⟩])
   (.seq (.region false [⟨⟨.mv (.slot 3), some 15, none⟩, []⟩,
     ⟨⟨.mv (.slot 5), some 16, none⟩, []⟩,
     ⟨⟨.len .slice (.slot 16), some 17, none⟩, []⟩,
     ⟨⟨.bin .add 3 .num (.slot 15) (.slot 17), some 18, none⟩, []⟩,
     ⟨⟨.mv (.slot 18), some 3, none⟩, []⟩])
   (.seq (.region false [⟨⟨.mv (.slot 3), some 19, none⟩, []⟩,
     ⟨⟨.bin .lss 3 .num (.slot 19) (.const (.int .i64 (.ofNat 0))), some 20, none⟩, []⟩])
   (.cond (.slot 20)
    (.region false [⟨⟨.mkif 9 (.const (.str ⟨⟨[108, 101, 110, 32, 111, 117, 116, 32, 111, 102, 32, 114, 97, 110, 103, 101]⟩⟩)), some 21, none⟩, []⟩,
      ⟨⟨.bad, none, none⟩, []⟩])
    .skip)))))
   (.region false [⟨⟨.bin .add 3 .num (.slot 11) (.const (.int .i64 (.ofNat 1))), some 22, none⟩, []⟩,
     ⟨⟨.mv (.slot 22), some 11, none⟩, []⟩])))))))
  (.seq (.region false [⟨⟨.mv (.slot 3), some 23, none⟩, []⟩,
    ⟨⟨.call (.const (.func 43 [] [])) [(.const .nils), (.slot 23)], some 24, none⟩, []⟩,
    ⟨⟨.mv (.slot 24), some 6, none⟩, []⟩])
  (.seq (.seq (.region false [⟨⟨.mv (.slot 0), some 25, none⟩, []⟩,
    ⟨⟨.len .slice (.slot 25), some 26, none⟩, []⟩,
    ⟨⟨.mv (.const (.int .i64 (.ofNat 0))), some 27, none⟩, []⟩])
  (.block 2 (.loop (.seq (.region false [⟨⟨.bin .lss 3 .num (.slot 27) (.slot 26), some 28, none⟩, []⟩])
   (.seq (.cond (.slot 28)
    .skip
    (.exit 2))
   (.seq (.block 3 (.seq (.region false [⟨⟨.iaddr 1 (.slot 25) (.slot 27), some 29, none⟩, []⟩,
     ⟨⟨.load false 1 (.slot 29), some 30, none⟩, []⟩,
     ⟨⟨.mv (.slot 30), some 8, none⟩, []⟩])
   (.region false [⟨⟨.mv (.slot 6), some 31, none⟩, []⟩,
     ⟨⟨.mv (.slot 8), some 32, none⟩, []⟩,
     ⟨⟨.append 1 8 (.slot 31) (.slot 32), some 33, none⟩, []⟩,
     ⟨⟨.mv (.slot 33), some 6, none⟩, []⟩])))
   (.region false [⟨⟨.bin .add 3 .num (.slot 27) (.const (.int .i64 (.ofNat 1))), some 34, none⟩, []⟩,
     ⟨⟨.mv (.slot 34), some 27, none⟩, []⟩])))))))
  (.seq (.region false [⟨⟨.mv (.slot 6), some 35, none⟩, []⟩,
    ⟨⟨.mv (.slot 35), some 2, none⟩, []⟩])
  .ret)))))),
  [.tmp 2]⟩
theorem xf29_ok : compFunc Tryz.prog Tryz.f29 = some xf29 := by kernel_rfl
/-- (*threshing/base.Base).Occurs -/
def xf30 : XFunc := ⟨(.seq (.region false [⟨⟨.mv (.const .nils), some 4, none⟩, []⟩])
  (.seq (.seq (.region false [⟨⟨.mv (.slot 0), some 5, none⟩, []⟩,
    ⟨⟨.bin .eql 27 .ptr (.slot 5) (.const .nilp), some 6, none⟩, []⟩])
  (.cond (.slot 6)
   (.seq (.region false [⟨⟨.mv (.const .nils), some 4, none⟩, []⟩])
   .ret)
   .skip))
  (.seq (.region false [⟨⟨.mv (.slot 0), some 7, none⟩, []⟩,
    ⟨⟨.nilCheck (.slot 7), some 8, none⟩, []⟩,
    ⟨⟨.faddr 2 (.slot 8), some 9, none⟩, []⟩,
    ⟨⟨.load false 1 (.slot 9), some 10, none⟩, []⟩,
    ⟨⟨.mv (.slot 1), some 11, none⟩, []⟩,
    ⟨⟨.lookup .i32 .nilm (.slot 10) (.slot 11) false, some 12, none⟩, []⟩,
    ⟨⟨.call (.const (.func 45 [] [])) [(.slot 12)], some 13, none⟩, []⟩,
    ⟨⟨.call (.const (.func 44 [] [])) [(.slot 13)], some 14, none⟩, []⟩,
    ⟨⟨.mv (.slot 14), some 4, none⟩, []⟩])
  .ret))),
  [.tmp 4]⟩
theorem xf30_ok : compFunc Tryz.prog Tryz.f30 = some xf30 := by kernel_rfl
/-- slices.Sort[[]int64,int64] -/
def xf31 : XFunc := ⟨(.seq (.region false [⟨⟨.mv (.slot 0), some 3, none⟩, []⟩,
    ⟨⟨.len .slice (.slot 3), some 4, none⟩, []⟩,
    ⟨⟨.mv (.slot 4), some 2, none⟩, []⟩])
  (.region false [⟨⟨.mv (.slot 0), some 5, none⟩, []⟩,
    ⟨⟨.mv (.slot 2), some 6, none⟩, []⟩,
    ⟨⟨.mv (.slot 2), some 7, none⟩, []⟩,
    ⟨⟨.conv .u64 (.slot 7), some 8, none⟩, []⟩,
    ⟨⟨.call (.const (.func 47 [] [])) [(.slot 8)], some 9, none⟩, []⟩,
    ⟨⟨.call (.const (.func 46 [] [])) [(.slot 5), (.const (.int .i64 (.ofNat 0))), (.slot 6), (.slot 9)], some 10, none⟩, []⟩])),
  []⟩
theorem xf31_ok : compFunc Tryz.prog Tryz.f31 = some xf31 := by kernel_rfl
/-- slices.Compact[[]int64,int64] -/
def xf32 : XFunc := ⟨(.seq (.region false [⟨⟨.mv (.const .nils), some 2, none⟩, []⟩])
  (.seq (.seq (.region false [⟨⟨.mv (.slot 0), some 6, none⟩, []⟩,
    ⟨⟨.len .slice (.slot 6), some 7, none⟩, []⟩,
    ⟨⟨.bin .lss 3 .num (.slot 7) (.const (.int .i64 (.ofNat 2))), some 8, none⟩, []⟩])
  (.cond (.slot 8)
   (.seq (.region false [⟨⟨.mv (.slot 0), some 9, none⟩, []⟩,
     ⟨⟨.mv (.slot 9), some 2, none⟩, []⟩])
   .ret)
   .skip))
  (.seq (.seq (.region false [⟨⟨.mv (.const (.int .i64 (.ofNat 1))), some 3, none⟩, []⟩])
  (.block 0 (.loop (.seq (.seq (.region false [⟨⟨.mv (.slot 3), some 10, none⟩, []⟩,
     ⟨⟨.mv (.slot 0), some 11, none⟩, []⟩,
     ⟨⟨.len .slice (.slot 11), some 12, none⟩, []⟩,
     ⟨⟨.bin .lss 3 .num (.slot 10) (.slot 12), some 13, none⟩, []⟩])
   (.cond (.slot 13)
    .skip
    (.exit 0)))
   (.seq (.block 1 (.seq (.region true [⟨⟨.mv (.slot 0), some 16, none⟩, []⟩,
     ⟨⟨.mv (.slot 3), some 17, none⟩, []⟩,
     ⟨⟨.iaddr 1 (.slot 16) (.slot 17), some 18, none⟩, []⟩,
     ⟨⟨.load false 1 (.slot 18), some 19, none⟩, []⟩,
     ⟨⟨.mv (.slot 0), some 20, none⟩, []⟩,
     ⟨⟨.mv (.slot 3), some 21, none⟩, []⟩,
     ⟨⟨.bin .sub 3 .num (.slot 21) (.const (.int .i64 (.ofNat 1))), some 22, none⟩, []⟩,
     ⟨⟨.iaddr 1 (.slot 20) (.slot 22), some 23, none⟩, []⟩,
     ⟨⟨.load false 1 (.slot 23), some 24, none⟩, []⟩,
     ⟨⟨.bin .eql 2 .num (.slot 19) (.slot 24), some 25, none⟩, []⟩])
   (.cond (.slot 25)
    (.seq (.region false [⟨⟨.mv (.slot 0), some 26, none⟩, []⟩,
      ⟨⟨.mv (.slot 3), some 27, none⟩, []⟩,
      ⟨⟨.slc 1 (.slot 26) (some (.slot 27)) none none, some 28, none⟩, []⟩,
      ⟨⟨.mv (.slot 28), some 4, none⟩, []⟩])
    (.seq (.seq (.region false [⟨⟨.mv (.const (.int .i64 (.ofNat 1))), some 5, none⟩, []⟩])
    (.block 2 (.loop (.seq (.seq (.region false [⟨⟨.mv (.slot 5), some 29, none⟩, []⟩,
       ⟨⟨.mv (.slot 4), some 30, none⟩, []⟩,
       ⟨⟨.len .slice (.slot 30), some 31, none⟩, []⟩,
       ⟨⟨.bin .lss 3 .num (.slot 29) (.slot 31), some 32, none⟩, []⟩])
     (.cond (.slot 32)
      .skip
      (.exit 2)))
     (.seq (.block 3 (.seq (.region true [⟨⟨.mv (.slot 4), some 35, none⟩, []⟩,
       ⟨⟨.mv (.slot 5), some 36, none⟩, []⟩,
       ⟨⟨.iaddr 1 (.slot 35) (.slot 36), some 37, none⟩, []⟩,
       ⟨⟨.load false 1 (.slot 37), some 38, none⟩, []⟩,
       ⟨⟨.mv (.slot 4), some 39, none⟩, []⟩,
       ⟨⟨.mv (.slot 5), some 40, none⟩, []⟩,
       ⟨⟨.bin .sub 3 .num (.slot 40) (.const (.int .i64 (.ofNat 1))), some 41, none⟩, []⟩,
       ⟨⟨.iaddr 1 (.slot 39) (.slot 41), some 42, none⟩, []⟩,
       ⟨⟨.load false 1 (.slot 42), some 43, none⟩, []⟩,
       ⟨⟨.bin .neq 2 .num (.slot 38) (.slot 43), some 44, none⟩, []⟩])
     (.cond (.slot 44)
      (.seq (.region false [⟨⟨.mv (.slot 0), some 45, none⟩, []⟩,
        ⟨⟨.mv (.slot 3), some 46, none⟩, []⟩,
        ⟨⟨.mv (.slot 4), some 47, none⟩, []⟩,
        ⟨⟨.mv (.slot 5), some 48, none⟩, []⟩,
        ⟨⟨.iaddr 1 (.slot 47) (.slot 48), some 49, none⟩, []⟩,
        ⟨⟨.load false 1 (.slot 49), some 50, none⟩, []⟩,
        ⟨⟨.iaddr 1 (.slot 45) (.slot 46), some 51, none⟩, []⟩,
        ⟨⟨.store 1 (.slot 51) (.slot 50), none, none⟩, []⟩])
      (.region false [⟨⟨.mv (.slot 3), some 52, none⟩, []⟩,
        ⟨⟨.bin .add 3 .num (.slot 52) (.const (.int .i64 (.ofNat 1))), some 53, none⟩, []⟩,
        ⟨⟨.mv (.slot 53), some 3, none⟩, []⟩]))
      .skip)))
     (.region false [⟨⟨.mv (.slot 5), some 33, none⟩, []⟩,
       ⟨⟨.bin .add 3 .num (.slot 33) (.const (.int .i64 (.ofNat 1))), some 34, none⟩, []⟩,
       ⟨⟨.mv (.slot 34), some 5, none⟩, []⟩]))))))
    (.seq (.region false [⟨⟨.mv (.slot 0), some 54, none⟩, []⟩,
      ⟨⟨.mv (.slot 3), some 55, none⟩, []⟩,
      ⟨⟨.slc 1 (.slot 54) (some (.slot 55)) none none, some 56, none⟩, []⟩,
      ⟨⟨.clear [(.int .i64 (.ofNat 0))] (.slot 56), none, none⟩, []⟩])
    (.seq (.region false [⟨⟨.mv (.slot 0), some 57, none⟩, []⟩,
      ⟨⟨.mv (.slot 3), some 58, none⟩, []⟩,
      ⟨⟨.slc 1 (.slot 57) none (some (.slot 58)) none, some 59, none⟩, []⟩,
      ⟨⟨.mv (.slot 59), some 2, none⟩, []⟩])
    .ret))))
    .skip)))
   (.region false [⟨⟨.mv (.slot 3), some 14, none⟩, []⟩,
     ⟨⟨.bin .add 3 .num (.slot 14) (.const (.int .i64 (.ofNat 1))), some 15, none⟩, []⟩,
     ⟨⟨.mv (.slot 15), some 3, none⟩, []⟩]))))))
  (.seq (.region false [⟨⟨.mv (.slot 0), some 60, none⟩, []⟩,
    ⟨⟨.mv (.slot 60), some 2, none⟩, []⟩])
  .ret)))),
  [.tmp 2]⟩
theorem xf32_ok : compFunc Tryz.prog Tryz.f32 = some xf32 := by kernel_rfl
/-- (*threshing/base.Base).Get -/
def xf33 : XFunc := ⟨(.seq (.region false [⟨⟨.alloc [(.int .i64 (.ofNat 0)), .nils, (.bool false)], some 4, none⟩, []⟩,
    ⟨⟨.mv (.const (.bool false)), some 5, none⟩, []⟩])
  (.seq (.seq (.region false [⟨⟨.mv (.slot 0), some 8, none⟩, []⟩,
    ⟨⟨.bin .eql 27 .ptr (.slot 8) (.const .nilp), some 9, none⟩, []⟩])
  (.cond (.slot 9)
   (.seq (.region false [⟨⟨.build [(.int .i64 (.ofNat 0)), .nils, (.bool false)] [], some 10, none⟩, []⟩,
     ⟨⟨.store 3 (.slot 4) (.slot 10), none, none⟩, []⟩,
     ⟨⟨.mv (.const (.bool false)), some 5, none⟩, []⟩])
   .ret)
   .skip))
  (.seq (.region false [⟨⟨.mv (.slot 0), some 12, none⟩, []⟩,
    ⟨⟨.nilCheck (.slot 12), some 13, none⟩, []⟩,
    ⟨⟨.faddr 1 (.slot 13), some 14, none⟩, []⟩,
    ⟨⟨.load false 1 (.slot 14), some 15, none⟩, []⟩,
    ⟨⟨.mv (.slot 1), some 16, none⟩, []⟩,
    ⟨⟨.lookup .i64 (.agg [(.int .i64 (.ofNat 0)), .nils, (.bool false)]) (.slot 15) (.slot 16) true, some 17, none⟩, []⟩,
    ⟨⟨.mv (.slot 17), some 11, none⟩, []⟩,
    ⟨⟨.extract (.slot 11) 0, some 18, none⟩, []⟩,
    ⟨⟨.extract (.slot 11) 1, some 19, none⟩, []⟩,
    ⟨⟨.alloc [(.int .i64 (.ofNat 0)), .nils, (.bool false)], some 6, none⟩, []⟩,
    ⟨⟨.store 3 (.slot 6) (.slot 18), none, none⟩, []⟩,
    ⟨⟨.mv (.slot 19), some 7, none⟩, []⟩])
  (.seq (.region false [⟨⟨.load true 3 (.slot 6), some 20, none⟩, []⟩,
    ⟨⟨.call (.const (.func 48 [] [])) [(.slot 20)], some 21, none⟩, []⟩,
    ⟨⟨.mv (.slot 7), some 22, none⟩, []⟩,
    ⟨⟨.store 3 (.slot 4) (.slot 21), none, none⟩, []⟩,
    ⟨⟨.mv (.slot 22), some 5, none⟩, []⟩])
  .ret)))),
  [.cell 4 true 3, .tmp 5]⟩
theorem xf33_ok : compFunc Tryz.prog Tryz.f33 = some xf33 := by kernel_rfl
/-- slices.Sort[[]int,int] -/
def xf34 : XFunc := ⟨(.seq (.region false [⟨⟨.mv (.slot 0), some 3, none⟩, []⟩,
    ⟨⟨.len .slice (.slot 3), some 4, none⟩, []⟩,
    ⟨⟨.mv (.slot 4), some 2, none⟩, []⟩])
  (.region false [⟨⟨.mv (.slot 0), some 5, none⟩, []⟩,
    ⟨⟨.mv (.slot 2), some 6, none⟩, []⟩,
    ⟨⟨.mv (.slot 2), some 7, none⟩, []⟩,
    ⟨⟨.conv .u64 (.slot 7), some 8, none⟩, []⟩,
    ⟨⟨.call (.const (.func 47 [] [])) [(.slot 8)], some 9, none⟩, []⟩,
    ⟨⟨.call (.const (.func 49 [] [])) [(.slot 5), (.const (.int .i64 (.ofNat 0))), (.slot 6), (.slot 9)], some 10, none⟩, []⟩])),
  []⟩
theorem xf34_ok : compFunc Tryz.prog Tryz.f34 = some xf34 := by kernel_rfl
/-- slices.Compact[[]int,int] -/
def xf35 : XFunc := ⟨(.seq (.region false [⟨⟨.mv (.const .nils), some 2, none⟩, []⟩])
  (.seq (.seq (.region false [⟨⟨.mv (.slot 0), some 6, none⟩, []⟩,
    ⟨⟨.len .slice (.slot 6), some 7, none⟩, []⟩,
    ⟨⟨.bin .lss 3 .num (.slot 7) (.const (.int .i64 (.ofNat 2))), some 8, none⟩, []⟩])
  (.cond (.slot 8)
   (.seq (.region false [⟨⟨.mv (.slot 0), some 9, none⟩, []⟩,
     ⟨⟨.mv (.slot 9), some 2, none⟩, []⟩])
   .ret)
   .skip))
  (.seq (.seq (.region false [⟨⟨.mv (.const (.int .i64 (.ofNat 1))), some 3, none⟩, []⟩])
  (.block 0 (.loop (.seq (.seq (.region false [⟨⟨.mv (.slot 3), some 10, none⟩, []⟩,
     ⟨⟨.mv (.slot 0), some 11, none⟩, []⟩,
     ⟨⟨.len .slice (.slot 11), some 12, none⟩, []⟩,
     ⟨⟨.bin .lss 3 .num (.slot 10) (.slot 12), some 13, none⟩, []⟩])
   (.cond (.slot 13)
    .skip
    (.exit 0)))
   (.seq (.block 1 (.seq (.region true [⟨⟨.mv (.slot 0), some 16, none⟩, []⟩,
     ⟨⟨.mv (.slot 3), some 17, none⟩, []⟩,
     ⟨⟨.iaddr 1 (.slot 16) (.slot 17), some 18, none⟩, []⟩,
     ⟨⟨.load false 1 (.slot 18), some 19, none⟩, []⟩,
     ⟨⟨.mv (.slot 0), some 20, none⟩, []⟩,
     ⟨⟨.mv (.slot 3), some 21, none⟩, []⟩,
     ⟨⟨.bin .sub 3 .num (.slot 21) (.const (.int .i64 (.ofNat 1))), some 22, none⟩, []⟩,
     ⟨⟨.iaddr 1 (.slot 20) (.slot 22), some 23, none⟩, []⟩,
     ⟨⟨.load false 1 (.slot 23), some 24, none⟩, []⟩,
     ⟨⟨.bin .eql 3 .num (.slot 19) (.slot 24), some 25, none⟩, []⟩])
   (.cond (.slot 25)
    (.seq (.region false [⟨⟨.mv (.slot 0), some 26, none⟩, []⟩,
      ⟨⟨.mv (.slot 3), some 27, none⟩, []⟩,
      ⟨⟨.slc 1 (.slot 26) (some (.slot 27)) none none, some 28, none⟩, []⟩,
      ⟨⟨.mv (.slot 28), some 4, none⟩, []⟩])
    (.seq (.seq (.region false [⟨⟨.mv (.const (.int .i64 (.ofNat 1))), some 5, none⟩, []⟩])
    (.block 2 (.loop (.seq (.seq (.region false [⟨⟨.mv (.slot 5), some 29, none⟩, []⟩,
       ⟨⟨.mv (.slot 4), some 30, none⟩, []⟩,
       ⟨⟨.len .slice (.slot 30), some 31, none⟩, []⟩,
       ⟨⟨.bin .lss 3 .num (.slot 29) (.slot 31), some 32, none⟩, []⟩])
     (.cond (.slot 32)
      .skip
      (.exit 2)))
     (.seq (.block 3 (.seq (.region true [⟨⟨.mv (.slot 4), some 35, none⟩, []⟩,
       ⟨⟨.mv (.slot 5), some 36, none⟩, []⟩,
       ⟨⟨.iaddr 1 (.slot 35) (.slot 36), some 37, none⟩, []⟩,
       ⟨⟨.load false 1 (.slot 37), some 38, none⟩, []⟩,
       ⟨⟨.mv (.slot 4), some 39, none⟩, []⟩,
       ⟨⟨.mv (.slot 5), some 40, none⟩, []⟩,
       ⟨⟨.bin .sub 3 .num (.slot 40) (.const (.int .i64 (.ofNat 1))), some 41, none⟩, []⟩,
       ⟨⟨.iaddr 1 (.slot 39) (.slot 41), some 42, none⟩, []⟩,
       ⟨⟨.load false 1 (.slot 42), some 43, none⟩, []⟩,
       ⟨⟨.bin .neq 3 .num (.slot 38) (.slot 43), some 44, none⟩, []⟩])
     (.cond (.slot 44)
      (.seq (.region false [⟨⟨.mv (.slot 0), some 45, none⟩, []⟩,
        ⟨⟨.mv (.slot 3), some 46, none⟩, []⟩,
        ⟨⟨.mv (.slot 4), some 47, none⟩, []⟩,
        ⟨⟨.mv (.slot 5), some 48, none⟩, []⟩,
        ⟨⟨.iaddr 1 (.slot 47) (.slot 48), some 49, none⟩, []⟩,
        ⟨⟨.load false 1 (.slot 49), some 50, none⟩, []⟩,
        ⟨⟨.iaddr 1 (.slot 45) (.slot 46), some 51, none⟩, []⟩,
        ⟨⟨.store 1 (.slot 51) (.slot 50), none, none⟩, []⟩])
      (.region false [⟨⟨.mv (.slot 3), some 52, none⟩, []⟩,
        ⟨⟨.bin .add 3 .num (.slot 52) (.const (.int .i64 (.ofNat 1))), some 53, none⟩, []⟩,
        ⟨⟨.mv (.slot 53), some 3, none⟩, []⟩]))
      .skip)))
     (.region false [⟨⟨.mv (.slot 5), some 33, none⟩, []⟩,
       ⟨⟨.bin .add 3 .num (.slot 33) (.const (.int .i64 (.ofNat 1))), some 34, none⟩, []⟩,
       ⟨⟨.mv (.slot 34), some 5, none⟩, []⟩]))))))
    (.seq (.region false [⟨⟨.mv (.slot 0), some 54, none⟩, []⟩,
      ⟨⟨.mv (.slot 3), some 55, none⟩, []⟩,
      ⟨⟨.slc 1 (.slot 54) (some (.slot 55)) none none, some 56, none⟩, []⟩,
      ⟨⟨.clear [(.int .i64 (.ofNat 0))] (.slot 56), none, none⟩, []⟩])
    (.seq (.region false [⟨⟨.mv (.slot 0), some 57, none⟩, []⟩,
      ⟨⟨.mv (.slot 3), some 58, none⟩, []⟩,
      ⟨⟨.slc 1 (.slot 57) none (some (.slot 58)) none, some 59, none⟩, []⟩,
      ⟨⟨.mv (.slot 59), some 2, none⟩, []⟩])
    .ret))))
    .skip)))
   (.region false [⟨⟨.mv (.slot 3), some 14, none⟩, []⟩,
     ⟨⟨.bin .add 3 .num (.slot 14) (.const (.int .i64 (.ofNat 1))), some 15, none⟩, []⟩,
     ⟨⟨.mv (.slot 15), some 3, none⟩, []⟩]))))))
  (.seq (.region false [⟨⟨.mv (.slot 0), some 60, none⟩, []⟩,
    ⟨⟨.mv (.slot 60), some 2, none⟩, []⟩])
  .ret)))),
  [.tmp 2]⟩
theorem xf35_ok : compFunc Tryz.prog Tryz.f35 = some xf35 := by kernel_rfl
/-- (*threshing/gates.finder).all -/
def xf36 : XFunc := ⟨(.seq (.region false [⟨⟨.mv (.const .nils), some 4, none⟩, []⟩,
    ⟨⟨.mv (.const (.bool false)), some 5, none⟩, []⟩])
  (.seq (.region false [⟨⟨.mv (.const .nils), some 6, none⟩, []⟩])
  (.seq (.seq (.region false [⟨⟨.mv (.slot 1), some 11, none⟩, []⟩,
    ⟨⟨.len .slice (.slot 11), some 12, none⟩, []⟩,
    ⟨⟨.mv (.const (.int .i64 (.ofNat 0))), some 13, none⟩, []⟩])
  (.block 0 (.loop (.seq (.region false [⟨⟨.bin .lss 3 .num (.slot 13) (.slot 12), some 14, none⟩, []⟩])
   (.seq (.cond (.slot 14)
    .skip
    (.exit 0))
   (.seq (.block 1 (.seq (.region false [⟨⟨.iaddr 1 (.slot 11) (.slot 13), some 15, none⟩, []⟩,
     ⟨⟨.load false 1 (.slot 15), some 16, none⟩, []⟩,
     ⟨⟨.alloc [.nils], some 8, none⟩, []⟩,
     ⟨⟨.store 1 (.slot 8) (.slot 16), none, none⟩, []⟩])
   (.seq (.region false [⟨⟨.mkfunc 50 [] [(.slot 8)], some 17, none⟩, []⟩,
     ⟨⟨.mv (.slot 17), some 9, none⟩, []⟩])
   (.seq (.region false [⟨⟨.mv (.slot 0), some 18, none⟩, []⟩,
     ⟨⟨.nilCheck (.slot 18), some 19, none⟩, []⟩,
     ⟨⟨.faddr 2 (.slot 19), some 20, none⟩, []⟩,
     ⟨⟨.load false 1 (.slot 20), some 21, none⟩, []⟩,
     ⟨⟨.mv (.slot 9), some 22, none⟩, []⟩,
     ⟨⟨.call (.const (.func 52 [] [])) [(.slot 21), (.slot 22)], some 23, none⟩, []⟩,
     ⟨⟨.mv (.slot 23), some 10, none⟩, []⟩])
   (.seq (.seq (.region false [⟨⟨.mv (.slot 10), some 24, none⟩, []⟩,
     ⟨⟨.bin .lss 3 .num (.slot 24) (.const (.int .i64 (.ofNat 0))), some 25, none⟩, []⟩])
   (.cond (.slot 25)
    (.seq (.region false [⟨⟨.mv (.const .nils), some 4, none⟩, []⟩,
      ⟨⟨.mv (.const (.bool false)), some 5, none⟩, []⟩])
    .ret)
    .skip))
   (.region false [⟨⟨.mv (.slot 6), some 26, none⟩, []⟩,
     ⟨⟨.mv (.slot 0), some 27, none⟩, []⟩,
     ⟨⟨.nilCheck (.slot 27), some 28, none⟩, []⟩,
     ⟨⟨.faddr 2 (.slot 28), some 29, none⟩, []⟩,
     ⟨⟨.load false 1 (.slot 29), some 30, none⟩, []⟩,
     ⟨⟨.mv (.slot 10), some 31, none⟩, []⟩,
     ⟨⟨.iaddr 3 (.slot 30) (.slot 31), some 32, none⟩, []⟩,
     ⟨⟨.faddr 0 (.slot 32), some 33, none⟩, []⟩,
     ⟨⟨.load false 1 (.slot 33), some 34, none⟩, []⟩,
     ⟨⟨.bslice 1 [(.int .i64 (.ofNat 0))] [(0, 1, (.slot 34))] 1, some 35, none⟩, []⟩,
     ⟨⟨.append 1 8 (.slot 26) (.slot 35), some 36, none⟩, []⟩,
     ⟨⟨.mv (.slot 36), some 6, none⟩, []⟩]))))))
   (.region false [⟨⟨.bin .add 3 .num (.slot 13) (.const (.int .i64 (.ofNat 1))), some 37, none⟩, []⟩,
     ⟨⟨.mv (.slot 37), some 13, none⟩, []⟩])))))))
  (.seq (.region false [⟨⟨.mv (.slot 6), some 38, none⟩, []⟩,
    ⟨⟨.mv (.slot 38), some 4, none⟩, []⟩,
    ⟨⟨.mv (.const (.bool true)), some 5, none⟩, []⟩])
  .ret)))),
  [.tmp 4, .tmp 5]⟩
theorem xf36_ok : compFunc Tryz.prog Tryz.f36 = some xf36 := by kernel_rfl
/-- threshing/cnf.Normal -/
def xf37 : XFunc := ⟨(.seq (.region false [⟨⟨.mv (.const .nils), some 2, none⟩, []⟩,
    ⟨⟨.mv (.const (.bool false)), some 3, none⟩, []⟩])
  (.seq (.region false [⟨⟨.mv (.slot 0), some 7, none⟩, []⟩,
    ⟨⟨.call (.const (.func 23 [] [])) [(.slot 7)], some 8, none⟩, []⟩,
    ⟨⟨.mv (.slot 8), some 4, none⟩, []⟩])
  (.seq (.region false [⟨⟨.mv (.slot 4), some 9, none⟩, []⟩,
    ⟨⟨.call (.const (.func 53 [] [])) [(.slot 9), (.const (.func 54 [] []))], some 10, none⟩, []⟩])
  (.seq (.region false [⟨⟨.mv (.slot 4), some 11, none⟩, []⟩,
    ⟨⟨.call (.const (.func 55 [] [])) [(.slot 11)], some 12, none⟩, []⟩,
    ⟨⟨.mv (.slot 12), some 4, none⟩, []⟩])
  (.seq (.region false [⟨⟨.mv (.const (.bool false)), some 5, none⟩, []⟩])
  (.seq (.seq (.region false [⟨⟨.mv (.slot 4), some 13, none⟩, []⟩,
    ⟨⟨.len .slice (.slot 13), some 14, none⟩, []⟩,
    ⟨⟨.mv (.const (.int .i64 (.ofNat 0))), some 15, none⟩, []⟩])
  (.block 0 (.loop (.seq (.region false [⟨⟨.bin .lss 3 .num (.slot 15) (.slot 14), some 16, none⟩, []⟩])
   (.seq (.cond (.slot 16)
    .skip
    (.exit 0))
   (.seq (.block 1 (.seq (.region false [⟨⟨.mv (.slot 15), some 17, none⟩, []⟩,
     ⟨⟨.mv (.slot 17), some 6, none⟩, []⟩])
   (.region true [⟨⟨.mv (.slot 5), some 18, none⟩, []⟩,
     ⟨⟨.mv (.slot 18), some 19, none⟩, []⟩,
     ⟨⟨.mv (.slot 6), some 20, some (19, false)⟩, []⟩,
     ⟨⟨.bin .gtr 3 .num (.slot 20) (.const (.int .i64 (.ofNat 0))), some 21, some (19, false)⟩, []⟩,
     ⟨⟨.mv (.slot 21), some 22, some (19, false)⟩, []⟩,
     ⟨⟨.mv (.slot 4), some 23, some (22, true)⟩, []⟩,
     ⟨⟨.mv (.slot 6), some 24, some (22, true)⟩, []⟩,
     ⟨⟨.iaddr 1 (.slot 23) (.slot 24), some 25, some (22, true)⟩, []⟩,
     ⟨⟨.load false 1 (.slot 25), some 26, some (22, true)⟩, []⟩,
     ⟨⟨.bin .gtr 23 .num (.slot 26) (.const (.int .i32 (.ofNat 0))), some 27, some (22, true)⟩, []⟩,
     ⟨⟨.pick (.slot 22) (.slot 27) (.const (.bool false)), some 28, some (19, false)⟩, []⟩,
     ⟨⟨.mv (.slot 28), some 29, some (19, false)⟩, []⟩,
     ⟨⟨.mv (.slot 4), some 30, some (29, true)⟩, []⟩,
     ⟨⟨.mv (.slot 6), some 31, some (29, true)⟩, []⟩,
     ⟨⟨.iaddr 1 (.slot 30) (.slot 31), some 32, some (29, true)⟩, []⟩,
     ⟨⟨.load false 1 (.slot 32), some 33, some (29, true)⟩, []⟩,
     ⟨⟨.mv (.slot 4), some 34, some (29, true)⟩, []⟩,
     ⟨⟨.mv (.slot 6), some 35, some (29, true)⟩, []⟩,
     ⟨⟨.bin .sub 3 .num (.slot 35) (.const (.int .i64 (.ofNat 1))), some 36, some (29, true)⟩, []⟩,
     ⟨⟨.iaddr 1 (.slot 34) (.slot 36), some 37, some (29, true)⟩, []⟩,
     ⟨⟨.load false 1 (.slot 37), some 38, some (29, true)⟩, []⟩,
     ⟨⟨.un .neg (.slot 38), some 39, some (29, true)⟩, []⟩,
     ⟨⟨.bin .eql 23 .num (.slot 33) (.slot 39), some 40, some (29, true)⟩, []⟩,
     ⟨⟨.pick (.slot 29) (.slot 40) (.const (.bool false)), some 41, some (19, false)⟩, []⟩,
     ⟨⟨.pick (.slot 19) (.const (.bool true)) (.slot 41), some 42, none⟩, []⟩,
     ⟨⟨.mv (.slot 42), some 5, none⟩, []⟩])))
   (.region false [⟨⟨.bin .add 3 .num (.slot 15) (.const (.int .i64 (.ofNat 1))), some 43, none⟩, []⟩,
     ⟨⟨.mv (.slot 43), some 15, none⟩, []⟩])))))))
  (.seq (.region false [⟨⟨.mv (.slot 4), some 44, none⟩, []⟩,
    ⟨⟨.call (.const (.func 56 [] [])) [(.slot 44)], some 45, none⟩, []⟩,
    ⟨⟨.mv (.slot 5), some 46, none⟩, []⟩,
    ⟨⟨.mv (.slot 45), some 2, none⟩, []⟩,
    ⟨⟨.mv (.slot 46), some 3, none⟩, []⟩])
  .ret))))))),
  [.tmp 2, .tmp 3]⟩
theorem xf37_ok : compFunc Tryz.prog Tryz.f37 = some xf37 := by kernel_rfl
end Go.Proofs.YtkajipnhmbgkiaaGreat

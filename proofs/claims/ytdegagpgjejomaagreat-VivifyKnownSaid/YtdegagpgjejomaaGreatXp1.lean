/- The functions of the program in X's code, printed by a program of ours; each is what the program's own is turned to. -/
import Derived.Test.YtdegagpgjejomaaGreatProg
import Derived.Test.YtdegagpgjejomaaGreatXc
import Derived.KernelRfl
namespace Go.Proofs.YtdegagpgjejomaaGreat
open Go.Xr
/-- (*threshing/base.Base).note -/
def xf23 : XFunc := ⟨(.seq (.region false [⟨⟨.box (.slot 1), some 3, none⟩, []⟩,
    ⟨⟨.mv (.const (.int .i64 (.ofNat 0))), some 4, none⟩, []⟩])
  (.seq (.region true [⟨⟨.mv (.slot 0), some 5, none⟩, []⟩,
    ⟨⟨.mv (.slot 0), some 6, none⟩, []⟩,
    ⟨⟨.nilCheck (.slot 6), some 7, none⟩, []⟩,
    ⟨⟨.faddr 7 (.slot 7), some 8, none⟩, []⟩,
    ⟨⟨.load false 1 (.slot 8), some 9, none⟩, []⟩,
    ⟨⟨.load true 6 (.slot 3), some 10, none⟩, []⟩,
    ⟨⟨.bslice 6 [(.int .u8 (.ofNat 0)), (.int .i64 (.ofNat 0)), (.int .i64 (.ofNat 0)), (.bool false), .nils, .nils] [(0, 6, (.slot 10))] 1, some 11, none⟩, [⟨.load false 1 (.slot 8), some 9, none⟩]⟩,
    ⟨⟨.append 6 80 (.slot 9) (.slot 11), some 12, none⟩, []⟩,
    ⟨⟨.nilCheck (.slot 5), some 13, none⟩, []⟩,
    ⟨⟨.faddr 7 (.slot 13), some 14, none⟩, []⟩,
    ⟨⟨.store 1 (.slot 14) (.slot 12), none, none⟩, []⟩])
  (.seq (.region false [⟨⟨.mv (.const (.int .i64 (.ofNat 0))), some 4, none⟩, []⟩])
  .ret))),
  [.tmp 4]⟩
theorem xf23_ok : compFunc Tryz.prog Tryz.f23 = some xf23 := by kernel_rfl
/-- slices.Sorted[int64] -/
def xf24 : XFunc := ⟨(.seq (.region false [⟨⟨.mv (.const .nils), some 2, none⟩, []⟩])
  (.seq (.region false [⟨⟨.mv (.slot 0), some 4, none⟩, []⟩,
    ⟨⟨.call (.const (.func 35 [] [])) [(.slot 4)], some 5, none⟩, []⟩,
    ⟨⟨.mv (.slot 5), some 3, none⟩, []⟩])
  (.seq (.region false [⟨⟨.mv (.slot 3), some 6, none⟩, []⟩,
    ⟨⟨.call (.const (.func 36 [] [])) [(.slot 6)], some 7, none⟩, []⟩])
  (.seq (.region false [⟨⟨.mv (.slot 3), some 8, none⟩, []⟩,
    ⟨⟨.mv (.slot 8), some 2, none⟩, []⟩])
  .ret)))),
  [.tmp 2]⟩
theorem xf24_ok : compFunc Tryz.prog Tryz.f24 = some xf24 := by kernel_rfl
/-- maps.Keys[map[int64]threshing/api.Entry,int64,threshing/api.Entry] -/
def xf25 : XFunc := ⟨(.seq (.region false [⟨⟨.box (.slot 0), some 1, none⟩, []⟩,
    ⟨⟨.mv (.const .nilf), some 2, none⟩, []⟩])
  (.seq (.region false [⟨⟨.mkfunc 37 [] [(.slot 1)], some 3, none⟩, []⟩,
    ⟨⟨.mv (.slot 3), some 2, none⟩, []⟩])
  .ret)),
  [.tmp 2]⟩
theorem xf25_ok : compFunc Tryz.prog Tryz.f25 = some xf25 := by kernel_rfl
/-- threshing/cnf.Right -/
def xf26 : XFunc := ⟨(.seq (.region false [⟨⟨.box (.slot 0), some 1, none⟩, []⟩,
    ⟨⟨.mv (.const (.int .i64 (.ofNat 0))), some 2, none⟩, []⟩])
  (.seq (.block 0 (.seq (.seq (.region false [⟨⟨.faddr 0 (.slot 1), some 9, none⟩, []⟩,
    ⟨⟨.load false 1 (.slot 9), some 10, none⟩, []⟩,
    ⟨⟨.bin .lss 3 .num (.slot 10) (.const (.int .i64 (.ofNat 0))), some 11, none⟩, []⟩,
    ⟨⟨.mv (.slot 11), some 8, none⟩, []⟩])
  (.cond (.slot 8)
   .skip
   (.region false [⟨⟨.faddr 0 (.slot 1), some 12, none⟩, []⟩,
     ⟨⟨.load false 1 (.slot 12), some 13, none⟩, []⟩,
     ⟨⟨.bin .gtr 3 .num (.slot 13) (.const (.int .i64 (.ofNat 1048576))), some 14, none⟩, []⟩,
     ⟨⟨.mv (.slot 14), some 8, none⟩, []⟩])))
  (.cond (.slot 8)
   (.seq (.region false [⟨⟨.mv (.const (.int .i64 (.ofNat 2))), some 2, none⟩, []⟩])
   .ret)
   (.seq (.region false [⟨⟨.faddr 1 (.slot 1), some 16, none⟩, []⟩,
     ⟨⟨.load false 1 (.slot 16), some 17, none⟩, []⟩,
     ⟨⟨.len .slice (.slot 17), some 18, none⟩, []⟩,
     ⟨⟨.bin .gtr 3 .num (.slot 18) (.const (.int .i64 (.ofNat 1048576))), some 19, none⟩, []⟩,
     ⟨⟨.mv (.slot 19), some 15, none⟩, []⟩])
   (.cond (.slot 15)
    (.seq (.region false [⟨⟨.mv (.const (.int .i64 (.ofNat 3))), some 2, none⟩, []⟩])
    .ret)
    .skip)))))
  (.seq (.region false [⟨⟨.mv (.const (.int .i64 (.ofNat 16777216))), some 3, none⟩, []⟩])
  (.seq (.seq (.region false [⟨⟨.faddr 1 (.slot 1), some 20, none⟩, []⟩,
    ⟨⟨.load false 1 (.slot 20), some 21, none⟩, []⟩,
    ⟨⟨.len .slice (.slot 21), some 22, none⟩, []⟩,
    ⟨⟨.mv (.const (.int .i64 (.ofNat 0))), some 23, none⟩, []⟩])
  (.block 1 (.loop (.seq (.region false [⟨⟨.bin .lss 3 .num (.slot 23) (.slot 22), some 24, none⟩, []⟩])
   (.seq (.cond (.slot 24)
    .skip
    (.exit 1))
   (.seq (.block 2 (.seq (.region false [⟨⟨.iaddr 1 (.slot 21) (.slot 23), some 25, none⟩, []⟩,
     ⟨⟨.load false 1 (.slot 25), some 26, none⟩, []⟩,
     ⟨⟨.mv (.slot 26), some 5, none⟩, []⟩])
   (.seq (.region false [⟨⟨.mv (.slot 5), some 27, none⟩, []⟩,
     ⟨⟨.len .slice (.slot 27), some 28, none⟩, []⟩,
     ⟨⟨.mv (.const (.int .i64 (.ofNat 0))), some 29, none⟩, []⟩])
   (.block 3 (.loop (.seq (.region false [⟨⟨.bin .lss 3 .num (.slot 29) (.slot 28), some 30, none⟩, []⟩])
    (.seq (.cond (.slot 30)
     .skip
     (.exit 3))
    (.seq (.block 4 (.seq (.region false [⟨⟨.iaddr 1 (.slot 27) (.slot 29), some 31, none⟩, []⟩,
      ⟨⟨.load false 1 (.slot 31), some 32, none⟩, []⟩,
      ⟨⟨.mv (.slot 32), some 7, none⟩, []⟩])
    (.seq (.seq (.region false [⟨⟨.mv (.slot 3), some 33, none⟩, []⟩,
      ⟨⟨.bin .eql 3 .num (.slot 33) (.const (.int .i64 (.ofNat 0))), some 34, none⟩, []⟩])
    (.cond (.slot 34)
     (.seq (.region false [⟨⟨.mv (.const (.int .i64 (.ofNat 3))), some 2, none⟩, []⟩])
     .ret)
     .skip))
    (.seq (.region false [⟨⟨.mv (.slot 3), some 35, none⟩, []⟩,
      ⟨⟨.bin .sub 3 .num (.slot 35) (.const (.int .i64 (.ofNat 1))), some 36, none⟩, []⟩,
      ⟨⟨.mv (.slot 36), some 3, none⟩, []⟩])
    (.seq (.region true [⟨⟨.mv (.slot 7), some 37, none⟩, []⟩,
      ⟨⟨.bin .eql 24 .num (.slot 37) (.const (.int .i32 (.ofNat 0))), some 38, none⟩, []⟩,
      ⟨⟨.mv (.slot 38), some 39, none⟩, []⟩,
      ⟨⟨.mv (.slot 7), some 40, some (39, false)⟩, []⟩,
      ⟨⟨.faddr 0 (.slot 1), some 42, some (39, false)⟩, []⟩,
      ⟨⟨.load false 1 (.slot 42), some 43, some (39, false)⟩, []⟩,
      ⟨⟨.call (.const (.func 33 [] [])) [(.slot 40)], some 41, some (39, false)⟩, [⟨.load false 1 (.slot 42), some 43, some (39, false)⟩]⟩,
      ⟨⟨.bin .gtr 3 .num (.slot 41) (.slot 43), some 44, some (39, false)⟩, []⟩,
      ⟨⟨.pick (.slot 39) (.const (.bool true)) (.slot 44), some 45, none⟩, []⟩])
    (.cond (.slot 45)
     (.seq (.region false [⟨⟨.mv (.const (.int .i64 (.ofNat 4))), some 2, none⟩, []⟩])
     .ret)
     .skip))))))
    (.region false [⟨⟨.bin .add 3 .num (.slot 29) (.const (.int .i64 (.ofNat 1))), some 46, none⟩, []⟩,
      ⟨⟨.mv (.slot 46), some 29, none⟩, []⟩])))))))))
   (.region false [⟨⟨.bin .add 3 .num (.slot 23) (.const (.int .i64 (.ofNat 1))), some 47, none⟩, []⟩,
     ⟨⟨.mv (.slot 47), some 23, none⟩, []⟩])))))))
  (.seq (.region false [⟨⟨.mv (.const (.int .i64 (.ofNat 0))), some 2, none⟩, []⟩])
  .ret))))),
  [.tmp 2]⟩
theorem xf26_ok : compFunc Tryz.prog Tryz.f26 = some xf26 := by kernel_rfl
/-- threshing/cnf.Normal -/
def xf27 : XFunc := ⟨(.seq (.region false [⟨⟨.mv (.const .nils), some 2, none⟩, []⟩,
    ⟨⟨.mv (.const (.bool false)), some 3, none⟩, []⟩])
  (.seq (.region false [⟨⟨.mv (.slot 0), some 7, none⟩, []⟩,
    ⟨⟨.call (.const (.func 17 [] [])) [(.slot 7)], some 8, none⟩, []⟩,
    ⟨⟨.mv (.slot 8), some 4, none⟩, []⟩])
  (.seq (.region false [⟨⟨.mv (.slot 4), some 9, none⟩, []⟩,
    ⟨⟨.call (.const (.func 38 [] [])) [(.slot 9), (.const (.func 39 [] []))], some 10, none⟩, []⟩])
  (.seq (.region false [⟨⟨.mv (.slot 4), some 11, none⟩, []⟩,
    ⟨⟨.call (.const (.func 40 [] [])) [(.slot 11)], some 12, none⟩, []⟩,
    ⟨⟨.mv (.slot 12), some 4, none⟩, []⟩])
  (.seq (.region false [⟨⟨.mv (.const (.bool false)), some 5, none⟩, []⟩])
  (.seq (.seq (.region false [⟨⟨.mv (.slot 4), some 13, none⟩, []⟩,
    ⟨⟨.len .slice (.slot 13), some 14, none⟩, []⟩,
    ⟨⟨.mv (.const (.int .i64 (.ofNat 0))), some 15, none⟩, []⟩])
  (.block 0 (.loop (.seq (.region false [⟨⟨.bin .lss 3 .num (.slot 15) (.slot 14), some 16, none⟩, []⟩])
   (.seq (.cond (.slot 16)
    .skip
    (.exit 0))
   (.seq (.block 1 (.seq (.region false [⟨⟨.mv (.slot 15), some 17, none⟩, []⟩,
     ⟨⟨.mv (.slot 17), some 6, none⟩, []⟩])
   (.region true [⟨⟨.mv (.slot 5), some 18, none⟩, []⟩,
     ⟨⟨.mv (.slot 18), some 19, none⟩, []⟩,
     ⟨⟨.mv (.slot 6), some 20, some (19, false)⟩, []⟩,
     ⟨⟨.bin .gtr 3 .num (.slot 20) (.const (.int .i64 (.ofNat 0))), some 21, some (19, false)⟩, []⟩,
     ⟨⟨.mv (.slot 21), some 22, some (19, false)⟩, []⟩,
     ⟨⟨.mv (.slot 4), some 23, some (22, true)⟩, []⟩,
     ⟨⟨.mv (.slot 6), some 24, some (22, true)⟩, []⟩,
     ⟨⟨.iaddr 1 (.slot 23) (.slot 24), some 25, some (22, true)⟩, []⟩,
     ⟨⟨.load false 1 (.slot 25), some 26, some (22, true)⟩, []⟩,
     ⟨⟨.bin .gtr 24 .num (.slot 26) (.const (.int .i32 (.ofNat 0))), some 27, some (22, true)⟩, []⟩,
     ⟨⟨.pick (.slot 22) (.slot 27) (.const (.bool false)), some 28, some (19, false)⟩, []⟩,
     ⟨⟨.mv (.slot 28), some 29, some (19, false)⟩, []⟩,
     ⟨⟨.mv (.slot 4), some 30, some (29, true)⟩, []⟩,
     ⟨⟨.mv (.slot 6), some 31, some (29, true)⟩, []⟩,
     ⟨⟨.iaddr 1 (.slot 30) (.slot 31), some 32, some (29, true)⟩, []⟩,
     ⟨⟨.load false 1 (.slot 32), some 33, some (29, true)⟩, []⟩,
     ⟨⟨.mv (.slot 4), some 34, some (29, true)⟩, []⟩,
     ⟨⟨.mv (.slot 6), some 35, some (29, true)⟩, []⟩,
     ⟨⟨.bin .sub 3 .num (.slot 35) (.const (.int .i64 (.ofNat 1))), some 36, some (29, true)⟩, []⟩,
     ⟨⟨.iaddr 1 (.slot 34) (.slot 36), some 37, some (29, true)⟩, []⟩,
     ⟨⟨.load false 1 (.slot 37), some 38, some (29, true)⟩, []⟩,
     ⟨⟨.un .neg (.slot 38), some 39, some (29, true)⟩, []⟩,
     ⟨⟨.bin .eql 24 .num (.slot 33) (.slot 39), some 40, some (29, true)⟩, []⟩,
     ⟨⟨.pick (.slot 29) (.slot 40) (.const (.bool false)), some 41, some (19, false)⟩, []⟩,
     ⟨⟨.pick (.slot 19) (.const (.bool true)) (.slot 41), some 42, none⟩, []⟩,
     ⟨⟨.mv (.slot 42), some 5, none⟩, []⟩])))
   (.region false [⟨⟨.bin .add 3 .num (.slot 15) (.const (.int .i64 (.ofNat 1))), some 43, none⟩, []⟩,
     ⟨⟨.mv (.slot 43), some 15, none⟩, []⟩])))))))
  (.seq (.region false [⟨⟨.mv (.slot 4), some 44, none⟩, []⟩,
    ⟨⟨.call (.const (.func 41 [] [])) [(.slot 44)], some 45, none⟩, []⟩,
    ⟨⟨.mv (.slot 5), some 46, none⟩, []⟩,
    ⟨⟨.mv (.slot 45), some 2, none⟩, []⟩,
    ⟨⟨.mv (.slot 46), some 3, none⟩, []⟩])
  .ret))))))),
  [.tmp 2, .tmp 3]⟩
theorem xf27_ok : compFunc Tryz.prog Tryz.f27 = some xf27 := by kernel_rfl
/-- threshing/vivify.through -/
def xf28 : XFunc := ⟨(.seq (.region false [⟨⟨.box (.slot 0), some 2, none⟩, []⟩,
    ⟨⟨.box (.slot 1), some 3, none⟩, []⟩,
    ⟨⟨.alloc [.nils, .nils, (.bool false)], some 4, none⟩, []⟩,
    ⟨⟨.mv (.const (.int .i64 (.ofNat 0))), some 5, none⟩, []⟩])
  (.seq (.region false [⟨⟨.mv (.const .nils), some 6, none⟩, []⟩,
    ⟨⟨.alloc [.nils], some 7, none⟩, []⟩])
  (.seq (.region false [⟨⟨.mkfunc 42 [] [(.slot 2), (.slot 7), (.slot 3)], some 16, none⟩, []⟩,
    ⟨⟨.mv (.slot 16), some 8, none⟩, []⟩])
  (.seq (.region false [⟨⟨.mkmap .i32, some 17, none⟩, []⟩,
    ⟨⟨.mv (.slot 17), some 9, none⟩, []⟩])
  (.seq (.seq (.region false [⟨⟨.faddr 1 (.slot 3), some 18, none⟩, []⟩,
    ⟨⟨.load false 1 (.slot 18), some 19, none⟩, []⟩,
    ⟨⟨.len .slice (.slot 19), some 20, none⟩, []⟩,
    ⟨⟨.mv (.const (.int .i64 (.ofNat 0))), some 21, none⟩, []⟩])
  (.block 0 (.loop (.seq (.region false [⟨⟨.bin .lss 3 .num (.slot 21) (.slot 20), some 22, none⟩, []⟩])
   (.seq (.cond (.slot 22)
    .skip
    (.exit 0))
   (.seq (.block 1 (.seq (.region false [⟨⟨.iaddr 1 (.slot 19) (.slot 21), some 23, none⟩, []⟩,
     ⟨⟨.load false 1 (.slot 23), some 24, none⟩, []⟩,
     ⟨⟨.mv (.slot 24), some 11, none⟩, []⟩])
   (.seq (.seq (.region false [⟨⟨.mv (.slot 9), some 25, none⟩, []⟩,
     ⟨⟨.mv (.slot 11), some 26, none⟩, []⟩,
     ⟨⟨.lookup .i32 (.bool false) (.slot 25) (.slot 26) false, some 27, none⟩, []⟩])
   (.cond (.slot 27)
    (.exit 1)
    .skip))
   (.seq (.region false [⟨⟨.mv (.slot 9), some 28, none⟩, []⟩,
     ⟨⟨.mv (.slot 11), some 29, none⟩, []⟩,
     ⟨⟨.mapup .i32 (.slot 28) (.slot 29) (.const (.bool true)), none, none⟩, []⟩])
   (.seq (.region false [⟨⟨.mv (.slot 8), some 31, none⟩, []⟩,
     ⟨⟨.call (.slot 31) [], some 32, none⟩, []⟩,
     ⟨⟨.mv (.slot 32), some 30, none⟩, []⟩,
     ⟨⟨.extract (.slot 30) 0, some 33, none⟩, []⟩,
     ⟨⟨.extract (.slot 30) 1, some 34, none⟩, []⟩,
     ⟨⟨.alloc [.nils, .nils, (.int .i64 (.ofNat 0))], some 12, none⟩, []⟩,
     ⟨⟨.store 3 (.slot 12) (.slot 33), none, none⟩, []⟩,
     ⟨⟨.mv (.slot 34), some 13, none⟩, []⟩])
   (.block 2 (.seq (.region false [⟨⟨.mv (.slot 13), some 36, none⟩, []⟩,
     ⟨⟨.bin .neq 27 .num (.slot 36) (.const (.int .i64 (.ofNat 0))), some 37, none⟩, []⟩,
     ⟨⟨.mv (.slot 37), some 35, none⟩, []⟩])
   (.cond (.slot 35)
    (.seq (.region false [⟨⟨.build [.nils, .nils, (.bool false)] [], some 38, none⟩, []⟩,
      ⟨⟨.mv (.slot 13), some 39, none⟩, []⟩,
      ⟨⟨.store 3 (.slot 4) (.slot 38), none, none⟩, []⟩,
      ⟨⟨.mv (.slot 39), some 5, none⟩, []⟩])
    .ret)
    (.seq (.region false [⟨⟨.faddr 2 (.slot 12), some 41, none⟩, []⟩,
      ⟨⟨.load false 1 (.slot 41), some 42, none⟩, []⟩,
      ⟨⟨.bin .neq 2 .num (.slot 42) (.const (.int .i64 (.ofNat 0))), some 43, none⟩, []⟩,
      ⟨⟨.mv (.slot 43), some 40, none⟩, []⟩])
    (.cond (.slot 40)
     (.seq (.region false [⟨⟨.mv (.slot 6), some 44, none⟩, []⟩,
       ⟨⟨.load true 3 (.slot 12), some 45, none⟩, []⟩,
       ⟨⟨.call (.const (.func 44 [] [])) [(.slot 45)], some 46, none⟩, []⟩,
       ⟨⟨.build [.nils, .nils, (.bool false)] [(0, 1, (.slot 44)), (1, 1, (.slot 46)), (2, 1, (.const (.bool true)))], some 47, none⟩, []⟩,
       ⟨⟨.store 3 (.slot 4) (.slot 47), none, none⟩, []⟩,
       ⟨⟨.mv (.const (.int .i64 (.ofNat 0))), some 5, none⟩, []⟩])
     .ret)
     (.seq (.region false [⟨⟨.faddr 0 (.slot 12), some 49, none⟩, []⟩,
       ⟨⟨.load false 1 (.slot 49), some 50, none⟩, []⟩,
       ⟨⟨.mv (.slot 11), some 51, none⟩, []⟩,
       ⟨⟨.call (.const (.func 45 [] [])) [(.slot 50), (.slot 51)], some 52, none⟩, []⟩,
       ⟨⟨.mv (.slot 52), some 48, none⟩, []⟩])
     (.cond (.slot 48)
      (.seq (.region true [⟨⟨.mv (.slot 6), some 53, none⟩, []⟩,
        ⟨⟨.mv (.slot 6), some 54, none⟩, []⟩,
        ⟨⟨.len .slice (.slot 54), some 55, none⟩, []⟩,
        ⟨⟨.mv (.slot 6), some 56, none⟩, []⟩,
        ⟨⟨.len .slice (.slot 56), some 57, none⟩, []⟩,
        ⟨⟨.slc 1 (.slot 53) none (some (.slot 55)) (some (.slot 57)), some 58, none⟩, []⟩,
        ⟨⟨.mv (.slot 11), some 59, none⟩, []⟩,
        ⟨⟨.load true 3 (.slot 12), some 62, none⟩, []⟩,
        ⟨⟨.mv (.slot 11), some 63, none⟩, []⟩,
        ⟨⟨.bslice 1 [(.int .i32 (.ofNat 0))] [(0, 1, (.slot 59))] 1, some 60, none⟩, [⟨.len .slice (.slot 54), some 55, none⟩, ⟨.len .slice (.slot 56), some 57, none⟩, ⟨.slc 1 (.slot 53) none (some (.slot 55)) (some (.slot 57)), some 58, none⟩, ⟨.load true 3 (.slot 12), some 62, none⟩]⟩,
        ⟨⟨.append 1 4 (.slot 58) (.slot 60), some 61, none⟩, [⟨.load true 3 (.slot 12), some 62, none⟩]⟩,
        ⟨⟨.call (.const (.func 46 [] [])) [(.slot 62), (.slot 63)], some 64, none⟩, []⟩,
        ⟨⟨.build [.nils, .nils, (.bool false)] [(0, 1, (.slot 61)), (1, 1, (.slot 64)), (2, 1, (.const (.bool true)))], some 65, none⟩, []⟩,
        ⟨⟨.store 3 (.slot 4) (.slot 65), none, none⟩, []⟩,
        ⟨⟨.mv (.const (.int .i64 (.ofNat 0))), some 5, none⟩, []⟩])
      .ret)
      (.seq (.region false [⟨⟨.faddr 0 (.slot 12), some 67, none⟩, []⟩,
        ⟨⟨.load false 1 (.slot 67), some 68, none⟩, []⟩,
        ⟨⟨.mv (.slot 11), some 69, none⟩, []⟩,
        ⟨⟨.un .neg (.slot 69), some 70, none⟩, []⟩,
        ⟨⟨.call (.const (.func 45 [] [])) [(.slot 68), (.slot 70)], some 71, none⟩, []⟩,
        ⟨⟨.un .not (.slot 71), some 72, none⟩, []⟩,
        ⟨⟨.mv (.slot 72), some 66, none⟩, []⟩])
      (.cond (.slot 66)
       (.region true [⟨⟨.mv (.slot 6), some 73, none⟩, []⟩,
         ⟨⟨.mv (.slot 11), some 74, none⟩, []⟩,
         ⟨⟨.load false 1 (.slot 7), some 77, none⟩, []⟩,
         ⟨⟨.mv (.slot 11), some 78, none⟩, []⟩,
         ⟨⟨.un .neg (.slot 78), some 79, none⟩, []⟩,
         ⟨⟨.bslice 1 [(.int .i32 (.ofNat 0))] [(0, 1, (.slot 74))] 1, some 75, none⟩, [⟨.load false 1 (.slot 7), some 77, none⟩]⟩,
         ⟨⟨.append 1 4 (.slot 73) (.slot 75), some 76, none⟩, [⟨.load false 1 (.slot 7), some 77, none⟩]⟩,
         ⟨⟨.bslice 1 [(.int .i32 (.ofNat 0))] [(0, 1, (.slot 79))] 1, some 80, none⟩, [⟨.load false 1 (.slot 7), some 77, none⟩]⟩,
         ⟨⟨.append 1 4 (.slot 77) (.slot 80), some 81, none⟩, []⟩,
         ⟨⟨.mv (.slot 76), some 6, none⟩, []⟩,
         ⟨⟨.store 1 (.slot 7) (.slot 81), none, none⟩, []⟩])
       .skip))))))))))))))
   (.region false [⟨⟨.bin .add 3 .num (.slot 21) (.const (.int .i64 (.ofNat 1))), some 82, none⟩, []⟩,
     ⟨⟨.mv (.slot 82), some 21, none⟩, []⟩])))))))
  (.seq (.region false [⟨⟨.mv (.slot 8), some 84, none⟩, []⟩,
    ⟨⟨.call (.slot 84) [], some 85, none⟩, []⟩,
    ⟨⟨.mv (.slot 85), some 83, none⟩, []⟩,
    ⟨⟨.extract (.slot 83) 0, some 86, none⟩, []⟩,
    ⟨⟨.extract (.slot 83) 1, some 87, none⟩, []⟩,
    ⟨⟨.alloc [.nils, .nils, (.int .i64 (.ofNat 0))], some 14, none⟩, []⟩,
    ⟨⟨.store 3 (.slot 14) (.slot 86), none, none⟩, []⟩,
    ⟨⟨.mv (.slot 87), some 15, none⟩, []⟩])
  (.seq (.block 3 (.seq (.region false [⟨⟨.mv (.slot 15), some 89, none⟩, []⟩,
    ⟨⟨.bin .neq 27 .num (.slot 89) (.const (.int .i64 (.ofNat 0))), some 90, none⟩, []⟩,
    ⟨⟨.mv (.slot 90), some 88, none⟩, []⟩])
  (.cond (.slot 88)
   (.seq (.region false [⟨⟨.build [.nils, .nils, (.bool false)] [], some 91, none⟩, []⟩,
     ⟨⟨.mv (.slot 15), some 92, none⟩, []⟩,
     ⟨⟨.store 3 (.slot 4) (.slot 91), none, none⟩, []⟩,
     ⟨⟨.mv (.slot 92), some 5, none⟩, []⟩])
   .ret)
   (.seq (.region false [⟨⟨.faddr 2 (.slot 14), some 94, none⟩, []⟩,
     ⟨⟨.load false 1 (.slot 94), some 95, none⟩, []⟩,
     ⟨⟨.bin .neq 2 .num (.slot 95) (.const (.int .i64 (.ofNat 0))), some 96, none⟩, []⟩,
     ⟨⟨.mv (.slot 96), some 93, none⟩, []⟩])
   (.cond (.slot 93)
    (.seq (.region false [⟨⟨.mv (.slot 6), some 97, none⟩, []⟩,
      ⟨⟨.load true 3 (.slot 14), some 98, none⟩, []⟩,
      ⟨⟨.call (.const (.func 44 [] [])) [(.slot 98)], some 99, none⟩, []⟩,
      ⟨⟨.build [.nils, .nils, (.bool false)] [(0, 1, (.slot 97)), (1, 1, (.slot 99)), (2, 1, (.const (.bool true)))], some 100, none⟩, []⟩,
      ⟨⟨.store 3 (.slot 4) (.slot 100), none, none⟩, []⟩,
      ⟨⟨.mv (.const (.int .i64 (.ofNat 0))), some 5, none⟩, []⟩])
    .ret)
    .skip)))))
  (.seq (.region true [⟨⟨.mv (.slot 6), some 101, none⟩, []⟩,
    ⟨⟨.load true 3 (.slot 14), some 102, none⟩, []⟩,
    ⟨⟨.faddr 0 (.slot 3), some 104, none⟩, []⟩,
    ⟨⟨.load false 1 (.slot 104), some 105, none⟩, []⟩,
    ⟨⟨.call (.const (.func 44 [] [])) [(.slot 102)], some 103, none⟩, [⟨.load false 1 (.slot 104), some 105, none⟩]⟩,
    ⟨⟨.bslice 1 [(.int .i64 (.ofNat 0))] [(0, 1, (.slot 105))] 1, some 106, none⟩, [⟨.load true 3 (.slot 14), some 102, none⟩]⟩,
    ⟨⟨.append 1 8 (.slot 103) (.slot 106), some 107, none⟩, []⟩,
    ⟨⟨.build [.nils, .nils, (.bool false)] [(0, 1, (.slot 101)), (1, 1, (.slot 107)), (2, 1, (.const (.bool false)))], some 108, none⟩, []⟩,
    ⟨⟨.store 3 (.slot 4) (.slot 108), none, none⟩, []⟩,
    ⟨⟨.mv (.const (.int .i64 (.ofNat 0))), some 5, none⟩, []⟩])
  .ret)))))))),
  [.cell 4 true 3, .tmp 5]⟩
theorem xf28_ok : compFunc Tryz.prog Tryz.f28 = some xf28 := by kernel_rfl
/-- (*threshing/base.Base).Drop -/
def xf29 : XFunc := ⟨(.seq (.region false [⟨⟨.mv (.const (.int .i64 (.ofNat 0))), some 6, none⟩, []⟩])
  (.seq (.seq (.region false [⟨⟨.mv (.slot 0), some 12, none⟩, []⟩,
    ⟨⟨.bin .eql 22 .ptr (.slot 12) (.const .nilp), some 13, none⟩, []⟩])
  (.cond (.slot 13)
   (.seq (.region false [⟨⟨.mv (.const (.int .i64 (.ofNat 1))), some 6, none⟩, []⟩])
   .ret)
   .skip))
  (.seq (.region false [⟨⟨.mv (.slot 0), some 15, none⟩, []⟩,
    ⟨⟨.nilCheck (.slot 15), some 16, none⟩, []⟩,
    ⟨⟨.faddr 1 (.slot 16), some 17, none⟩, []⟩,
    ⟨⟨.load false 1 (.slot 17), some 18, none⟩, []⟩,
    ⟨⟨.mv (.slot 1), some 19, none⟩, []⟩,
    ⟨⟨.lookup .i64 (.agg [(.int .i64 (.ofNat 0)), .nils, (.bool false)]) (.slot 18) (.slot 19) true, some 20, none⟩, []⟩,
    ⟨⟨.mv (.slot 20), some 14, none⟩, []⟩,
    ⟨⟨.extract (.slot 14) 0, some 21, none⟩, []⟩,
    ⟨⟨.extract (.slot 14) 1, some 22, none⟩, []⟩,
    ⟨⟨.alloc [(.int .i64 (.ofNat 0)), .nils, (.bool false)], some 7, none⟩, []⟩,
    ⟨⟨.store 3 (.slot 7) (.slot 21), none, none⟩, []⟩,
    ⟨⟨.mv (.slot 22), some 8, none⟩, []⟩])
  (.seq (.region false [⟨⟨.mv (.slot 0), some 24, none⟩, []⟩,
    ⟨⟨.nilCheck (.slot 24), some 25, none⟩, []⟩,
    ⟨⟨.faddr 1 (.slot 25), some 26, none⟩, []⟩,
    ⟨⟨.load false 1 (.slot 26), some 27, none⟩, []⟩,
    ⟨⟨.mv (.slot 2), some 28, none⟩, []⟩,
    ⟨⟨.lookup .i64 (.agg [(.int .i64 (.ofNat 0)), .nils, (.bool false)]) (.slot 27) (.slot 28) true, some 29, none⟩, []⟩,
    ⟨⟨.mv (.slot 29), some 23, none⟩, []⟩,
    ⟨⟨.extract (.slot 23) 0, some 30, none⟩, []⟩,
    ⟨⟨.extract (.slot 23) 1, some 31, none⟩, []⟩,
    ⟨⟨.alloc [(.int .i64 (.ofNat 0)), .nils, (.bool false)], some 9, none⟩, []⟩,
    ⟨⟨.store 3 (.slot 9) (.slot 30), none, none⟩, []⟩,
    ⟨⟨.mv (.slot 31), some 10, none⟩, []⟩])
  (.seq (.block 0 (.seq (.seq (.region false [⟨⟨.mv (.slot 8), some 33, none⟩, []⟩,
    ⟨⟨.un .not (.slot 33), some 34, none⟩, []⟩,
    ⟨⟨.mv (.slot 34), some 32, none⟩, []⟩])
  (.cond (.slot 32)
   .skip
   (.region false [⟨⟨.mv (.slot 2), some 35, none⟩, []⟩,
     ⟨⟨.bin .neq 2 .num (.slot 35) (.const (.int .i64 (.ofNat 0))), some 36, none⟩, []⟩,
     ⟨⟨.mv (.slot 36), some 37, none⟩, []⟩,
     ⟨⟨.mv (.slot 10), some 38, some (37, true)⟩, []⟩,
     ⟨⟨.un .not (.slot 38), some 39, some (37, true)⟩, []⟩,
     ⟨⟨.pick (.slot 37) (.slot 39) (.const (.bool false)), some 40, none⟩, []⟩,
     ⟨⟨.mv (.slot 40), some 32, none⟩, []⟩])))
  (.cond (.slot 32)
   (.seq (.region false [⟨⟨.mv (.const (.int .i64 (.ofNat 5))), some 6, none⟩, []⟩])
   .ret)
   (.seq (.seq (.region false [⟨⟨.mv (.slot 2), some 42, none⟩, []⟩,
     ⟨⟨.mv (.slot 1), some 43, none⟩, []⟩,
     ⟨⟨.bin .eql 2 .num (.slot 42) (.slot 43), some 44, none⟩, []⟩,
     ⟨⟨.mv (.slot 44), some 41, none⟩, []⟩])
   (.cond (.slot 41)
    .skip
    (.seq (.region false [⟨⟨.mv (.slot 2), some 45, none⟩, []⟩,
      ⟨⟨.bin .eql 2 .num (.slot 45) (.const (.int .i64 (.ofNat 0))), some 46, none⟩, []⟩,
      ⟨⟨.mv (.slot 46), some 47, none⟩, []⟩,
      ⟨⟨.faddr 1 (.slot 7), some 48, some (47, true)⟩, []⟩,
      ⟨⟨.load false 1 (.slot 48), some 49, some (47, true)⟩, []⟩,
      ⟨⟨.call (.const (.func 47 [] [])) [(.slot 49)], some 50, some (47, true)⟩, []⟩,
      ⟨⟨.un .not (.slot 50), some 51, some (47, true)⟩, []⟩,
      ⟨⟨.pick (.slot 47) (.slot 51) (.const (.bool false)), some 52, none⟩, []⟩,
      ⟨⟨.mv (.slot 52), some 41, none⟩, []⟩])
    (.cond (.slot 41)
     .skip
     (.region false [⟨⟨.mv (.slot 2), some 53, none⟩, []⟩,
       ⟨⟨.bin .neq 2 .num (.slot 53) (.const (.int .i64 (.ofNat 0))), some 54, none⟩, []⟩,
       ⟨⟨.mv (.slot 54), some 55, none⟩, []⟩,
       ⟨⟨.faddr 1 (.slot 9), some 56, some (55, true)⟩, []⟩,
       ⟨⟨.load false 1 (.slot 56), some 57, some (55, true)⟩, []⟩,
       ⟨⟨.faddr 1 (.slot 7), some 58, some (55, true)⟩, []⟩,
       ⟨⟨.load false 1 (.slot 58), some 59, some (55, true)⟩, []⟩,
       ⟨⟨.call (.const (.func 48 [] [])) [(.slot 57), (.slot 59)], some 60, some (55, true)⟩, []⟩,
       ⟨⟨.un .not (.slot 60), some 61, some (55, true)⟩, []⟩,
       ⟨⟨.pick (.slot 55) (.slot 61) (.const (.bool false)), some 62, none⟩, []⟩,
       ⟨⟨.mv (.slot 62), some 41, none⟩, []⟩])))))
   (.cond (.slot 41)
    (.seq (.region false [⟨⟨.mv (.const (.int .i64 (.ofNat 2))), some 6, none⟩, []⟩])
    .ret)
    .skip)))))
  (.seq (.seq (.region false [⟨⟨.mv (.slot 0), some 63, none⟩, []⟩,
    ⟨⟨.load true 3 (.slot 7), some 64, none⟩, []⟩,
    ⟨⟨.call (.const (.func 49 [] [])) [(.slot 63), (.slot 64)], some 65, none⟩, []⟩,
    ⟨⟨.mv (.slot 65), some 11, none⟩, []⟩])
  (.seq (.region false [⟨⟨.mv (.slot 11), some 66, none⟩, []⟩,
    ⟨⟨.bin .neq 27 .num (.slot 66) (.const (.int .i64 (.ofNat 0))), some 67, none⟩, []⟩])
  (.cond (.slot 67)
   (.seq (.region false [⟨⟨.mv (.slot 11), some 68, none⟩, []⟩,
     ⟨⟨.mv (.slot 68), some 6, none⟩, []⟩])
   .ret)
   .skip)))
  (.seq (.seq (.region false [⟨⟨.mv (.slot 2), some 69, none⟩, []⟩,
    ⟨⟨.bin .neq 2 .num (.slot 69) (.const (.int .i64 (.ofNat 0))), some 70, none⟩, []⟩,
    ⟨⟨.mv (.slot 70), some 71, none⟩, []⟩,
    ⟨⟨.faddr 2 (.slot 7), some 72, some (71, true)⟩, []⟩,
    ⟨⟨.load false 1 (.slot 72), some 73, some (71, true)⟩, []⟩,
    ⟨⟨.un .not (.slot 73), some 74, some (71, true)⟩, []⟩,
    ⟨⟨.pick (.slot 71) (.slot 74) (.const (.bool false)), some 75, none⟩, []⟩])
  (.cond (.slot 75)
   (.region false [⟨⟨.mv (.slot 0), some 76, none⟩, []⟩,
     ⟨⟨.load true 3 (.slot 9), some 77, none⟩, []⟩,
     ⟨⟨.call (.const (.func 50 [] [])) [(.slot 76), (.slot 77)], some 78, none⟩, []⟩])
   .skip))
  (.seq (.region false [⟨⟨.mv (.slot 0), some 79, none⟩, []⟩,
    ⟨⟨.mv (.slot 1), some 80, none⟩, []⟩,
    ⟨⟨.mv (.slot 2), some 81, none⟩, []⟩,
    ⟨⟨.build [(.int .u8 (.ofNat 0)), (.int .i64 (.ofNat 0)), (.int .i64 (.ofNat 0)), (.bool false), .nils, .nils] [(0, 1, (.const (.int .u8 (.ofNat 4)))), (1, 1, (.slot 80)), (2, 1, (.slot 81))], some 82, none⟩, []⟩,
    ⟨⟨.call (.const (.func 23 [] [])) [(.slot 79), (.slot 82)], some 83, none⟩, []⟩,
    ⟨⟨.mv (.slot 83), some 6, none⟩, []⟩])
  .ret)))))))),
  [.tmp 6]⟩
theorem xf29_ok : compFunc Tryz.prog Tryz.f29 = some xf29 := by kernel_rfl
/-- (*threshing/base.Base).Delete -/
def xf30 : XFunc := ⟨(.seq (.region false [⟨⟨.mv (.const (.int .i64 (.ofNat 0))), some 4, none⟩, []⟩])
  (.seq (.seq (.region false [⟨⟨.mv (.slot 0), some 8, none⟩, []⟩,
    ⟨⟨.bin .eql 22 .ptr (.slot 8) (.const .nilp), some 9, none⟩, []⟩])
  (.cond (.slot 9)
   (.seq (.region false [⟨⟨.mv (.const (.int .i64 (.ofNat 1))), some 4, none⟩, []⟩])
   .ret)
   .skip))
  (.seq (.region false [⟨⟨.mv (.slot 0), some 11, none⟩, []⟩,
    ⟨⟨.nilCheck (.slot 11), some 12, none⟩, []⟩,
    ⟨⟨.faddr 1 (.slot 12), some 13, none⟩, []⟩,
    ⟨⟨.load false 1 (.slot 13), some 14, none⟩, []⟩,
    ⟨⟨.mv (.slot 1), some 15, none⟩, []⟩,
    ⟨⟨.lookup .i64 (.agg [(.int .i64 (.ofNat 0)), .nils, (.bool false)]) (.slot 14) (.slot 15) true, some 16, none⟩, []⟩,
    ⟨⟨.mv (.slot 16), some 10, none⟩, []⟩,
    ⟨⟨.extract (.slot 10) 0, some 17, none⟩, []⟩,
    ⟨⟨.extract (.slot 10) 1, some 18, none⟩, []⟩,
    ⟨⟨.alloc [(.int .i64 (.ofNat 0)), .nils, (.bool false)], some 5, none⟩, []⟩,
    ⟨⟨.store 3 (.slot 5) (.slot 17), none, none⟩, []⟩,
    ⟨⟨.mv (.slot 18), some 6, none⟩, []⟩])
  (.seq (.block 0 (.seq (.region false [⟨⟨.mv (.slot 6), some 20, none⟩, []⟩,
    ⟨⟨.un .not (.slot 20), some 21, none⟩, []⟩,
    ⟨⟨.mv (.slot 21), some 19, none⟩, []⟩])
  (.cond (.slot 19)
   (.seq (.region false [⟨⟨.mv (.const (.int .i64 (.ofNat 5))), some 4, none⟩, []⟩])
   .ret)
   (.seq (.region false [⟨⟨.faddr 2 (.slot 5), some 23, none⟩, []⟩,
     ⟨⟨.load false 1 (.slot 23), some 24, none⟩, []⟩,
     ⟨⟨.un .not (.slot 24), some 25, none⟩, []⟩,
     ⟨⟨.mv (.slot 25), some 22, none⟩, []⟩])
   (.cond (.slot 22)
    (.seq (.region false [⟨⟨.mv (.const (.int .i64 (.ofNat 7))), some 4, none⟩, []⟩])
    .ret)
    .skip)))))
  (.seq (.seq (.region false [⟨⟨.mv (.slot 0), some 26, none⟩, []⟩,
    ⟨⟨.load true 3 (.slot 5), some 27, none⟩, []⟩,
    ⟨⟨.call (.const (.func 49 [] [])) [(.slot 26), (.slot 27)], some 28, none⟩, []⟩,
    ⟨⟨.mv (.slot 28), some 7, none⟩, []⟩])
  (.seq (.region false [⟨⟨.mv (.slot 7), some 29, none⟩, []⟩,
    ⟨⟨.bin .neq 27 .num (.slot 29) (.const (.int .i64 (.ofNat 0))), some 30, none⟩, []⟩])
  (.cond (.slot 30)
   (.seq (.region false [⟨⟨.mv (.slot 7), some 31, none⟩, []⟩,
     ⟨⟨.mv (.slot 31), some 4, none⟩, []⟩])
   .ret)
   .skip)))
  (.seq (.region false [⟨⟨.mv (.slot 0), some 32, none⟩, []⟩,
    ⟨⟨.mv (.slot 1), some 33, none⟩, []⟩,
    ⟨⟨.build [(.int .u8 (.ofNat 0)), (.int .i64 (.ofNat 0)), (.int .i64 (.ofNat 0)), (.bool false), .nils, .nils] [(0, 1, (.const (.int .u8 (.ofNat 3)))), (1, 1, (.slot 33))], some 34, none⟩, []⟩,
    ⟨⟨.call (.const (.func 23 [] [])) [(.slot 32), (.slot 34)], some 35, none⟩, []⟩,
    ⟨⟨.mv (.slot 35), some 4, none⟩, []⟩])
  .ret)))))),
  [.tmp 4]⟩
theorem xf30_ok : compFunc Tryz.prog Tryz.f30 = some xf30 := by kernel_rfl
/-- slices.ContainsFunc[threshing/api.Clause,threshing/api.Lit] -/
def xf31 : XFunc := ⟨(.seq (.region false [⟨⟨.mv (.const (.bool false)), some 4, none⟩, []⟩])
  (.seq (.region false [⟨⟨.mv (.slot 0), some 5, none⟩, []⟩,
    ⟨⟨.mv (.slot 1), some 6, none⟩, []⟩,
    ⟨⟨.call (.const (.func 51 [] [])) [(.slot 5), (.slot 6)], some 7, none⟩, []⟩,
    ⟨⟨.bin .geq 3 .num (.slot 7) (.const (.int .i64 (.ofNat 0))), some 8, none⟩, []⟩,
    ⟨⟨.mv (.slot 8), some 4, none⟩, []⟩])
  .ret)),
  [.tmp 4]⟩
theorem xf31_ok : compFunc Tryz.prog Tryz.f31 = some xf31 := by kernel_rfl
/-- (*threshing/base.Base).right$1 -/
def xf32 : XFunc := ⟨(.seq (.region false [⟨⟨.mv (.const (.bool false)), some 3, none⟩, []⟩])
  (.seq (.region true [⟨⟨.mv (.slot 0), some 4, none⟩, []⟩,
    ⟨⟨.bin .eql 24 .num (.slot 4) (.const (.int .i32 (.ofNat 0))), some 5, none⟩, []⟩,
    ⟨⟨.mv (.slot 5), some 6, none⟩, []⟩,
    ⟨⟨.mv (.slot 0), some 7, some (6, false)⟩, []⟩,
    ⟨⟨.load false 1 (.slot 1), some 9, some (6, false)⟩, []⟩,
    ⟨⟨.nilCheck (.slot 9), some 10, some (6, false)⟩, []⟩,
    ⟨⟨.faddr 0 (.slot 10), some 11, some (6, false)⟩, []⟩,
    ⟨⟨.load false 1 (.slot 11), some 12, some (6, false)⟩, []⟩,
    ⟨⟨.call (.const (.func 33 [] [])) [(.slot 7)], some 8, some (6, false)⟩, [⟨.load false 1 (.slot 1), some 9, some (6, false)⟩, ⟨.load false 1 (.slot 11), some 12, some (6, false)⟩]⟩,
    ⟨⟨.bin .gtr 3 .num (.slot 8) (.slot 12), some 13, some (6, false)⟩, []⟩,
    ⟨⟨.pick (.slot 6) (.const (.bool true)) (.slot 13), some 14, none⟩, []⟩,
    ⟨⟨.mv (.slot 14), some 3, none⟩, []⟩])
  .ret)),
  [.tmp 3]⟩
theorem xf32_ok : compFunc Tryz.prog Tryz.f32 = some xf32 := by kernel_rfl
/-- threshing/cnf.Var -/
def xf33 : XFunc := ⟨(.seq (.region false [⟨⟨.mv (.const (.int .i64 (.ofNat 0))), some 2, none⟩, []⟩])
  (.seq (.region false [⟨⟨.mv (.slot 0), some 3, none⟩, []⟩,
    ⟨⟨.call (.const (.func 52 [] [])) [(.slot 3)], some 4, none⟩, []⟩,
    ⟨⟨.mv (.slot 4), some 2, none⟩, []⟩])
  .ret)),
  [.tmp 2]⟩
theorem xf33_ok : compFunc Tryz.prog Tryz.f33 = some xf33 := by kernel_rfl
/-- (*threshing/base.Base).follows$1 -/
def xf34 : XFunc := ⟨(.seq (.region false [⟨⟨.mv (.const (.bool false)), some 3, none⟩, []⟩])
  (.seq (.region false [⟨⟨.load false 1 (.slot 1), some 4, none⟩, []⟩,
    ⟨⟨.mv (.slot 0), some 5, none⟩, []⟩,
    ⟨⟨.mapup .i32 (.slot 4) (.slot 5) (.const (.bool true)), none, none⟩, []⟩])
  (.seq (.region false [⟨⟨.load false 1 (.slot 1), some 6, none⟩, []⟩,
    ⟨⟨.mv (.slot 0), some 7, none⟩, []⟩,
    ⟨⟨.un .neg (.slot 7), some 8, none⟩, []⟩,
    ⟨⟨.lookup .i32 (.bool false) (.slot 6) (.slot 8) false, some 9, none⟩, []⟩,
    ⟨⟨.mv (.slot 9), some 3, none⟩, []⟩])
  .ret))),
  [.tmp 3]⟩
theorem xf34_ok : compFunc Tryz.prog Tryz.f34 = some xf34 := by kernel_rfl
/-- slices.Collect[int64] -/
def xf35 : XFunc := ⟨(.seq (.region false [⟨⟨.mv (.const .nils), some 2, none⟩, []⟩])
  (.seq (.region false [⟨⟨.mv (.slot 0), some 3, none⟩, []⟩,
    ⟨⟨.call (.const (.func 53 [] [])) [(.const .nils), (.slot 3)], some 4, none⟩, []⟩,
    ⟨⟨.mv (.slot 4), some 2, none⟩, []⟩])
  .ret)),
  [.tmp 2]⟩
theorem xf35_ok : compFunc Tryz.prog Tryz.f35 = some xf35 := by kernel_rfl
/-- slices.Sort[[]int64,int64] -/
def xf36 : XFunc := ⟨(.seq (.region false [⟨⟨.mv (.slot 0), some 3, none⟩, []⟩,
    ⟨⟨.len .slice (.slot 3), some 4, none⟩, []⟩,
    ⟨⟨.mv (.slot 4), some 2, none⟩, []⟩])
  (.region false [⟨⟨.mv (.slot 0), some 5, none⟩, []⟩,
    ⟨⟨.mv (.slot 2), some 6, none⟩, []⟩,
    ⟨⟨.mv (.slot 2), some 7, none⟩, []⟩,
    ⟨⟨.conv .u64 (.slot 7), some 8, none⟩, []⟩,
    ⟨⟨.call (.const (.func 55 [] [])) [(.slot 8)], some 9, none⟩, []⟩,
    ⟨⟨.call (.const (.func 54 [] [])) [(.slot 5), (.const (.int .i64 (.ofNat 0))), (.slot 6), (.slot 9)], some 10, none⟩, []⟩])),
  []⟩
theorem xf36_ok : compFunc Tryz.prog Tryz.f36 = some xf36 := by kernel_rfl
/-- maps.Keys[map[int64]threshing/api.Entry,int64,threshing/api.Entry]$1 -/
def xf37 : XFunc := ⟨(.seq (.region false [⟨⟨.load false 1 (.slot 1), some 4, none⟩, []⟩,
    ⟨⟨.range .i64 (.slot 4), some 5, none⟩, []⟩])
  (.block 0 (.loop (.seq (.region false [⟨⟨.next (.slot 5), some 6, none⟩, []⟩,
     ⟨⟨.extract (.slot 6) 0, some 7, none⟩, []⟩])
   (.seq (.cond (.slot 7)
    .skip
    (.exit 0))
   (.block 1 (.seq (.region false [⟨⟨.entry (.slot 5), some 8, none⟩, []⟩,
     ⟨⟨.extract (.slot 8) 0, some 9, none⟩, []⟩,
     ⟨⟨.mv (.slot 9), some 3, none⟩, []⟩])
   (.seq (.region false [⟨⟨.mv (.slot 0), some 10, none⟩, []⟩,
     ⟨⟨.mv (.slot 3), some 11, none⟩, []⟩,
     ⟨⟨.call (.slot 10) [(.slot 11)], some 12, none⟩, []⟩,
     ⟨⟨.un .not (.slot 12), some 13, none⟩, []⟩])
   (.cond (.slot 13)
    .ret
    .skip))))))))),
  []⟩
theorem xf37_ok : compFunc Tryz.prog Tryz.f37 = some xf37 := by kernel_rfl
/-- slices.SortFunc[threshing/api.Clause,threshing/api.Lit] -/
def xf38 : XFunc := ⟨(.seq (.region false [⟨⟨.mv (.slot 0), some 5, none⟩, []⟩,
    ⟨⟨.len .slice (.slot 5), some 6, none⟩, []⟩,
    ⟨⟨.mv (.slot 6), some 4, none⟩, []⟩])
  (.region false [⟨⟨.mv (.slot 0), some 7, none⟩, []⟩,
    ⟨⟨.mv (.slot 4), some 8, none⟩, []⟩,
    ⟨⟨.mv (.slot 4), some 9, none⟩, []⟩,
    ⟨⟨.conv .u64 (.slot 9), some 10, none⟩, []⟩,
    ⟨⟨.call (.const (.func 55 [] [])) [(.slot 10)], some 11, none⟩, []⟩,
    ⟨⟨.mv (.slot 1), some 12, none⟩, []⟩,
    ⟨⟨.call (.const (.func 56 [] [])) [(.slot 7), (.const (.int .i64 (.ofNat 0))), (.slot 8), (.slot 11), (.slot 12)], some 13, none⟩, []⟩])),
  []⟩
theorem xf38_ok : compFunc Tryz.prog Tryz.f38 = some xf38 := by kernel_rfl
/-- threshing/cnf.order -/
def xf39 : XFunc := ⟨(.seq (.region false [⟨⟨.mv (.const (.int .i64 (.ofNat 0))), some 4, none⟩, []⟩])
  (.seq (.region false [⟨⟨.mv (.slot 0), some 5, none⟩, []⟩,
    ⟨⟨.call (.const (.func 33 [] [])) [(.slot 5)], some 6, none⟩, []⟩,
    ⟨⟨.mv (.slot 1), some 7, none⟩, []⟩,
    ⟨⟨.call (.const (.func 33 [] [])) [(.slot 7)], some 8, none⟩, []⟩,
    ⟨⟨.call (.const (.func 58 [] [])) [(.slot 6), (.slot 8)], some 9, none⟩, []⟩,
    ⟨⟨.mv (.slot 0), some 10, none⟩, []⟩,
    ⟨⟨.mv (.slot 1), some 11, none⟩, []⟩,
    ⟨⟨.call (.const (.func 59 [] [])) [(.slot 10), (.slot 11)], some 12, none⟩, []⟩,
    ⟨⟨.bslice 1 [(.int .i64 (.ofNat 0)), (.int .i64 (.ofNat 0))] [(0, 1, (.slot 9)), (1, 1, (.slot 12))] 2, some 13, none⟩, []⟩,
    ⟨⟨.call (.const (.func 57 [] [])) [(.slot 13)], some 14, none⟩, []⟩,
    ⟨⟨.mv (.slot 14), some 4, none⟩, []⟩])
  .ret)),
  [.tmp 4]⟩
theorem xf39_ok : compFunc Tryz.prog Tryz.f39 = some xf39 := by kernel_rfl
/-- slices.Compact[threshing/api.Clause,threshing/api.Lit] -/
def xf40 : XFunc := ⟨(.seq (.region false [⟨⟨.mv (.const .nils), some 2, none⟩, []⟩])
  (.seq (.seq (.region false [⟨⟨.mv (.slot 0), some 6, none⟩, []⟩,
    ⟨⟨.len .slice (.slot 6), some 7, none⟩, []⟩,
    ⟨⟨.bin .lss 3 .num (.slot 7) (.const (.int .i64 (.ofNat 2))), some 8, none⟩, []⟩])
  (.cond (.slot 8)
   (.seq (.region false [⟨⟨.mv (.slot 0), some 9, none⟩, []⟩,
     ⟨⟨.mv (.slot 9), some 2, none⟩, []⟩])
   .ret)
   .skip))
  (.seq (.seq (.region false [⟨⟨.mv (.const (.int .i64 (.ofNat 1))), some 3, none⟩, []⟩])
  (.block 0 (.loop (.seq (.seq (.region false [⟨⟨.mv (.slot 3), some 10, none⟩, []⟩,
     ⟨⟨.mv (.slot 0), some 11, none⟩, []⟩,
     ⟨⟨.len .slice (.slot 11), some 12, none⟩, []⟩,
     ⟨⟨.bin .lss 3 .num (.slot 10) (.slot 12), some 13, none⟩, []⟩])
   (.cond (.slot 13)
    .skip
    (.exit 0)))
   (.seq (.block 1 (.seq (.region true [⟨⟨.mv (.slot 0), some 16, none⟩, []⟩,
     ⟨⟨.mv (.slot 3), some 17, none⟩, []⟩,
     ⟨⟨.iaddr 1 (.slot 16) (.slot 17), some 18, none⟩, []⟩,
     ⟨⟨.load false 1 (.slot 18), some 19, none⟩, []⟩,
     ⟨⟨.mv (.slot 0), some 20, none⟩, []⟩,
     ⟨⟨.mv (.slot 3), some 21, none⟩, []⟩,
     ⟨⟨.bin .sub 3 .num (.slot 21) (.const (.int .i64 (.ofNat 1))), some 22, none⟩, []⟩,
     ⟨⟨.iaddr 1 (.slot 20) (.slot 22), some 23, none⟩, []⟩,
     ⟨⟨.load false 1 (.slot 23), some 24, none⟩, []⟩,
     ⟨⟨.bin .eql 24 .num (.slot 19) (.slot 24), some 25, none⟩, []⟩])
   (.cond (.slot 25)
    (.seq (.region false [⟨⟨.mv (.slot 0), some 26, none⟩, []⟩,
      ⟨⟨.mv (.slot 3), some 27, none⟩, []⟩,
      ⟨⟨.slc 1 (.slot 26) (some (.slot 27)) none none, some 28, none⟩, []⟩,
      ⟨⟨.mv (.slot 28), some 4, none⟩, []⟩])
    (.seq (.seq (.region false [⟨⟨.mv (.const (.int .i64 (.ofNat 1))), some 5, none⟩, []⟩])
    (.block 2 (.loop (.seq (.seq (.region false [⟨⟨.mv (.slot 5), some 29, none⟩, []⟩,
       ⟨⟨.mv (.slot 4), some 30, none⟩, []⟩,
       ⟨⟨.len .slice (.slot 30), some 31, none⟩, []⟩,
       ⟨⟨.bin .lss 3 .num (.slot 29) (.slot 31), some 32, none⟩, []⟩])
     (.cond (.slot 32)
      .skip
      (.exit 2)))
     (.seq (.block 3 (.seq (.region true [⟨⟨.mv (.slot 4), some 35, none⟩, []⟩,
       ⟨⟨.mv (.slot 5), some 36, none⟩, []⟩,
       ⟨⟨.iaddr 1 (.slot 35) (.slot 36), some 37, none⟩, []⟩,
       ⟨⟨.load false 1 (.slot 37), some 38, none⟩, []⟩,
       ⟨⟨.mv (.slot 4), some 39, none⟩, []⟩,
       ⟨⟨.mv (.slot 5), some 40, none⟩, []⟩,
       ⟨⟨.bin .sub 3 .num (.slot 40) (.const (.int .i64 (.ofNat 1))), some 41, none⟩, []⟩,
       ⟨⟨.iaddr 1 (.slot 39) (.slot 41), some 42, none⟩, []⟩,
       ⟨⟨.load false 1 (.slot 42), some 43, none⟩, []⟩,
       ⟨⟨.bin .neq 24 .num (.slot 38) (.slot 43), some 44, none⟩, []⟩])
     (.cond (.slot 44)
      (.seq (.region false [⟨⟨.mv (.slot 0), some 45, none⟩, []⟩,
        ⟨⟨.mv (.slot 3), some 46, none⟩, []⟩,
        ⟨⟨.mv (.slot 4), some 47, none⟩, []⟩,
        ⟨⟨.mv (.slot 5), some 48, none⟩, []⟩,
        ⟨⟨.iaddr 1 (.slot 47) (.slot 48), some 49, none⟩, []⟩,
        ⟨⟨.load false 1 (.slot 49), some 50, none⟩, []⟩,
        ⟨⟨.iaddr 1 (.slot 45) (.slot 46), some 51, none⟩, []⟩,
        ⟨⟨.store 1 (.slot 51) (.slot 50), none, none⟩, []⟩])
      (.region false [⟨⟨.mv (.slot 3), some 52, none⟩, []⟩,
        ⟨⟨.bin .add 3 .num (.slot 52) (.const (.int .i64 (.ofNat 1))), some 53, none⟩, []⟩,
        ⟨⟨.mv (.slot 53), some 3, none⟩, []⟩]))
      .skip)))
     (.region false [⟨⟨.mv (.slot 5), some 33, none⟩, []⟩,
       ⟨⟨.bin .add 3 .num (.slot 33) (.const (.int .i64 (.ofNat 1))), some 34, none⟩, []⟩,
       ⟨⟨.mv (.slot 34), some 5, none⟩, []⟩]))))))
    (.seq (.region false [⟨⟨.mv (.slot 0), some 54, none⟩, []⟩,
      ⟨⟨.mv (.slot 3), some 55, none⟩, []⟩,
      ⟨⟨.slc 1 (.slot 54) (some (.slot 55)) none none, some 56, none⟩, []⟩,
      ⟨⟨.clear [(.int .i32 (.ofNat 0))] (.slot 56), none, none⟩, []⟩])
    (.seq (.region false [⟨⟨.mv (.slot 0), some 57, none⟩, []⟩,
      ⟨⟨.mv (.slot 3), some 58, none⟩, []⟩,
      ⟨⟨.slc 1 (.slot 57) none (some (.slot 58)) none, some 59, none⟩, []⟩,
      ⟨⟨.mv (.slot 59), some 2, none⟩, []⟩])
    .ret))))
    .skip)))
   (.region false [⟨⟨.mv (.slot 3), some 14, none⟩, []⟩,
     ⟨⟨.bin .add 3 .num (.slot 14) (.const (.int .i64 (.ofNat 1))), some 15, none⟩, []⟩,
     ⟨⟨.mv (.slot 15), some 3, none⟩, []⟩]))))))
  (.seq (.region false [⟨⟨.mv (.slot 0), some 60, none⟩, []⟩,
    ⟨⟨.mv (.slot 60), some 2, none⟩, []⟩])
  .ret)))),
  [.tmp 2]⟩
theorem xf40_ok : compFunc Tryz.prog Tryz.f40 = some xf40 := by kernel_rfl
/-- slices.Clip[threshing/api.Clause,threshing/api.Lit] -/
def xf41 : XFunc := ⟨(.seq (.region false [⟨⟨.mv (.const .nils), some 2, none⟩, []⟩])
  (.seq (.region false [⟨⟨.mv (.slot 0), some 3, none⟩, []⟩,
    ⟨⟨.mv (.slot 0), some 4, none⟩, []⟩,
    ⟨⟨.len .slice (.slot 4), some 5, none⟩, []⟩,
    ⟨⟨.mv (.slot 0), some 6, none⟩, []⟩,
    ⟨⟨.len .slice (.slot 6), some 7, none⟩, []⟩,
    ⟨⟨.slc 1 (.slot 3) none (some (.slot 5)) (some (.slot 7)), some 8, none⟩, []⟩,
    ⟨⟨.mv (.slot 8), some 2, none⟩, []⟩])
  .ret)),
  [.tmp 2]⟩
theorem xf41_ok : compFunc Tryz.prog Tryz.f41 = some xf41 := by kernel_rfl
/-- threshing/vivify.through$1 -/
def xf42 : XFunc := ⟨(.seq (.region false [⟨⟨.alloc [.nils, .nils, (.int .i64 (.ofNat 0))], some 3, none⟩, []⟩,
    ⟨⟨.mv (.const (.int .i64 (.ofNat 0))), some 4, none⟩, []⟩])
  (.seq (.region false [⟨⟨.load false 1 (.slot 0), some 5, none⟩, []⟩,
    ⟨⟨.load false 1 (.slot 1), some 6, none⟩, []⟩,
    ⟨⟨.faddr 0 (.slot 2), some 7, none⟩, []⟩,
    ⟨⟨.load false 1 (.slot 7), some 8, none⟩, []⟩,
    ⟨⟨.call (.const (.func 43 [] [])) [(.slot 5), (.slot 6), (.slot 8)], some 9, none⟩, []⟩,
    ⟨⟨.extract (.slot 9) 0, some 10, none⟩, []⟩,
    ⟨⟨.extract (.slot 9) 1, some 11, none⟩, []⟩,
    ⟨⟨.store 3 (.slot 3) (.slot 10), none, none⟩, []⟩,
    ⟨⟨.mv (.slot 11), some 4, none⟩, []⟩])
  .ret)),
  [.cell 3 true 3, .tmp 4]⟩
theorem xf42_ok : compFunc Tryz.prog Tryz.f42 = some xf42 := by kernel_rfl
/-- threshing/unit.Propagate -/
def xf43 : XFunc := ⟨(.seq (.region false [⟨⟨.alloc [.nils, .nils, (.int .i64 (.ofNat 0))], some 6, none⟩, []⟩,
    ⟨⟨.mv (.const (.int .i64 (.ofNat 0))), some 7, none⟩, []⟩])
  (.seq (.seq (.region false [⟨⟨.mv (.slot 0), some 25, none⟩, []⟩,
    ⟨⟨.bin .eql 22 .ptr (.slot 25) (.const .nilp), some 26, none⟩, []⟩])
  (.cond (.slot 26)
   (.seq (.region false [⟨⟨.build [.nils, .nils, (.int .i64 (.ofNat 0))] [], some 27, none⟩, []⟩,
     ⟨⟨.store 3 (.slot 6) (.slot 27), none, none⟩, []⟩,
     ⟨⟨.mv (.const (.int .i64 (.ofNat 1))), some 7, none⟩, []⟩])
   .ret)
   .skip))
  (.seq (.seq (.region false [⟨⟨.mv (.slot 1), some 28, none⟩, []⟩,
    ⟨⟨.len .slice (.slot 28), some 29, none⟩, []⟩,
    ⟨⟨.mv (.const (.int .i64 (.ofNat 0))), some 30, none⟩, []⟩])
  (.block 0 (.loop (.seq (.region false [⟨⟨.bin .lss 3 .num (.slot 30) (.slot 29), some 31, none⟩, []⟩])
   (.seq (.cond (.slot 31)
    .skip
    (.exit 0))
   (.seq (.block 1 (.seq (.region false [⟨⟨.iaddr 1 (.slot 28) (.slot 30), some 32, none⟩, []⟩,
     ⟨⟨.load false 1 (.slot 32), some 33, none⟩, []⟩,
     ⟨⟨.mv (.slot 33), some 9, none⟩, []⟩])
   (.seq (.region false [⟨⟨.mv (.slot 9), some 34, none⟩, []⟩,
     ⟨⟨.bin .eql 24 .num (.slot 34) (.const (.int .i32 (.ofNat 0))), some 35, none⟩, []⟩,
     ⟨⟨.mv (.slot 35), some 36, none⟩, []⟩,
     ⟨⟨.mv (.slot 9), some 37, some (36, false)⟩, []⟩,
     ⟨⟨.call (.const (.func 33 [] [])) [(.slot 37)], some 38, some (36, false)⟩, []⟩,
     ⟨⟨.mv (.slot 0), some 39, some (36, false)⟩, []⟩,
     ⟨⟨.call (.const (.func 60 [] [])) [(.slot 39)], some 40, some (36, false)⟩, []⟩,
     ⟨⟨.bin .gtr 3 .num (.slot 38) (.slot 40), some 41, some (36, false)⟩, []⟩,
     ⟨⟨.pick (.slot 36) (.const (.bool true)) (.slot 41), some 42, none⟩, []⟩])
   (.cond (.slot 42)
    (.seq (.region false [⟨⟨.build [.nils, .nils, (.int .i64 (.ofNat 0))] [], some 43, none⟩, []⟩,
      ⟨⟨.store 3 (.slot 6) (.slot 43), none, none⟩, []⟩,
      ⟨⟨.mv (.const (.int .i64 (.ofNat 4))), some 7, none⟩, []⟩])
    .ret)
    .skip))))
   (.region false [⟨⟨.bin .add 3 .num (.slot 30) (.const (.int .i64 (.ofNat 1))), some 44, none⟩, []⟩,
     ⟨⟨.mv (.slot 44), some 30, none⟩, []⟩])))))))
  (.seq (.seq (.region false [⟨⟨.mv (.slot 1), some 46, none⟩, []⟩,
    ⟨⟨.call (.const (.func 27 [] [])) [(.slot 46)], some 47, none⟩, []⟩,
    ⟨⟨.mv (.slot 47), some 45, none⟩, []⟩,
    ⟨⟨.extract (.slot 45) 0, some 48, none⟩, []⟩,
    ⟨⟨.extract (.slot 45) 1, some 49, none⟩, []⟩,
    ⟨⟨.mv (.slot 48), some 10, none⟩, []⟩,
    ⟨⟨.mv (.slot 49), some 11, none⟩, []⟩])
  (.seq (.region false [⟨⟨.mv (.slot 11), some 50, none⟩, []⟩])
  (.cond (.slot 50)
   (.seq (.region false [⟨⟨.build [.nils, .nils, (.int .i64 (.ofNat 0))] [], some 51, none⟩, []⟩,
     ⟨⟨.store 3 (.slot 6) (.slot 51), none, none⟩, []⟩,
     ⟨⟨.mv (.const (.int .i64 (.ofNat 2))), some 7, none⟩, []⟩])
   .ret)
   .skip)))
  (.seq (.region false [⟨⟨.mkmap .i64, some 52, none⟩, []⟩,
    ⟨⟨.mkmap .i64, some 53, none⟩, []⟩,
    ⟨⟨.mkmap .i32, some 54, none⟩, []⟩,
    ⟨⟨.mkmap .i32, some 55, none⟩, []⟩,
    ⟨⟨.build [.nilm, .nilm, .nilm, .nilm, .nils] [(0, 1, (.slot 52)), (1, 1, (.slot 53)), (2, 1, (.slot 54)), (3, 1, (.slot 55)), (4, 1, (.const .nils))], some 56, none⟩, []⟩,
    ⟨⟨.box (.slot 56), some 57, none⟩, []⟩,
    ⟨⟨.mv (.slot 57), some 12, none⟩, []⟩])
  (.seq (.seq (.region false [⟨⟨.mv (.slot 0), some 58, none⟩, []⟩,
    ⟨⟨.call (.const (.func 11 [] [])) [(.slot 58)], some 59, none⟩, []⟩,
    ⟨⟨.len .slice (.slot 59), some 60, none⟩, []⟩,
    ⟨⟨.mv (.const (.int .i64 (.ofNat 0))), some 61, none⟩, []⟩])
  (.block 2 (.loop (.seq (.region false [⟨⟨.bin .lss 3 .num (.slot 61) (.slot 60), some 62, none⟩, []⟩])
   (.seq (.cond (.slot 62)
    .skip
    (.exit 2))
   (.seq (.block 3 (.seq (.region false [⟨⟨.iaddr 3 (.slot 59) (.slot 61), some 63, none⟩, []⟩,
     ⟨⟨.load true 3 (.slot 63), some 64, none⟩, []⟩,
     ⟨⟨.alloc [(.int .i64 (.ofNat 0)), .nils, (.bool false)], some 14, none⟩, []⟩,
     ⟨⟨.store 3 (.slot 14) (.slot 64), none, none⟩, []⟩])
   (.seq (.seq (.region false [⟨⟨.faddr 0 (.slot 14), some 65, none⟩, []⟩,
     ⟨⟨.load false 1 (.slot 65), some 66, none⟩, []⟩,
     ⟨⟨.mv (.slot 2), some 67, none⟩, []⟩,
     ⟨⟨.bin .eql 2 .num (.slot 66) (.slot 67), some 68, none⟩, []⟩])
   (.cond (.slot 68)
    (.exit 3)
    .skip))
   (.seq (.region false [⟨⟨.faddr 1 (.slot 14), some 70, none⟩, []⟩,
     ⟨⟨.load false 1 (.slot 70), some 71, none⟩, []⟩,
     ⟨⟨.call (.const (.func 27 [] [])) [(.slot 71)], some 72, none⟩, []⟩,
     ⟨⟨.mv (.slot 72), some 69, none⟩, []⟩,
     ⟨⟨.extract (.slot 69) 0, some 73, none⟩, []⟩,
     ⟨⟨.extract (.slot 69) 1, some 74, none⟩, []⟩,
     ⟨⟨.mv (.slot 73), some 15, none⟩, []⟩,
     ⟨⟨.mv (.slot 74), some 16, none⟩, []⟩])
   (.seq (.region true [⟨⟨.mv (.slot 12), some 75, none⟩, []⟩,
     ⟨⟨.nilCheck (.slot 75), some 76, none⟩, []⟩,
     ⟨⟨.faddr 0 (.slot 76), some 77, none⟩, []⟩,
     ⟨⟨.load false 1 (.slot 77), some 78, none⟩, []⟩,
     ⟨⟨.faddr 0 (.slot 14), some 79, none⟩, []⟩,
     ⟨⟨.load false 1 (.slot 79), some 80, none⟩, []⟩,
     ⟨⟨.mv (.slot 12), some 81, none⟩, []⟩,
     ⟨⟨.nilCheck (.slot 81), some 82, none⟩, []⟩,
     ⟨⟨.faddr 1 (.slot 82), some 83, none⟩, []⟩,
     ⟨⟨.load false 1 (.slot 83), some 84, none⟩, []⟩,
     ⟨⟨.faddr 0 (.slot 14), some 85, none⟩, []⟩,
     ⟨⟨.load false 1 (.slot 85), some 86, none⟩, []⟩,
     ⟨⟨.mv (.slot 15), some 87, none⟩, []⟩,
     ⟨⟨.mv (.slot 15), some 88, none⟩, []⟩,
     ⟨⟨.len .slice (.slot 88), some 89, none⟩, []⟩,
     ⟨⟨.mentry .nils (.slot 78) (.slot 80), some 90, none⟩, [⟨.load false 1 (.slot 85), some 86, none⟩, ⟨.len .slice (.slot 88), some 89, none⟩]⟩,
     ⟨⟨.extract (.slot 90) 1, some 91, none⟩, []⟩,
     ⟨⟨.estore (.slot 78) (.slot 91) (.slot 87), none, none⟩, [⟨.load false 1 (.slot 85), some 86, none⟩, ⟨.len .slice (.slot 88), some 89, none⟩]⟩,
     ⟨⟨.mentry (.int .i64 (.ofNat 0)) (.slot 84) (.slot 86), some 92, none⟩, [⟨.len .slice (.slot 88), some 89, none⟩]⟩,
     ⟨⟨.extract (.slot 92) 1, some 93, none⟩, []⟩,
     ⟨⟨.estore (.slot 84) (.slot 93) (.slot 89), none, none⟩, []⟩])
   (.seq (.seq (.region false [⟨⟨.mv (.slot 15), some 94, none⟩, []⟩,
     ⟨⟨.len .slice (.slot 94), some 95, none⟩, []⟩,
     ⟨⟨.mv (.const (.int .i64 (.ofNat 0))), some 96, none⟩, []⟩])
   (.block 4 (.loop (.seq (.region false [⟨⟨.bin .lss 3 .num (.slot 96) (.slot 95), some 97, none⟩, []⟩])
    (.seq (.cond (.slot 97)
     .skip
     (.exit 4))
    (.seq (.block 5 (.seq (.region false [⟨⟨.iaddr 1 (.slot 94) (.slot 96), some 98, none⟩, []⟩,
      ⟨⟨.load false 1 (.slot 98), some 99, none⟩, []⟩,
      ⟨⟨.mv (.slot 99), some 18, none⟩, []⟩])
    (.region true [⟨⟨.mv (.slot 12), some 100, none⟩, []⟩,
      ⟨⟨.nilCheck (.slot 100), some 101, none⟩, []⟩,
      ⟨⟨.faddr 2 (.slot 101), some 102, none⟩, []⟩,
      ⟨⟨.load false 1 (.slot 102), some 103, none⟩, []⟩,
      ⟨⟨.mv (.slot 18), some 104, none⟩, []⟩,
      ⟨⟨.mv (.slot 12), some 105, none⟩, []⟩,
      ⟨⟨.nilCheck (.slot 105), some 106, none⟩, []⟩,
      ⟨⟨.faddr 2 (.slot 106), some 107, none⟩, []⟩,
      ⟨⟨.load false 1 (.slot 107), some 108, none⟩, []⟩,
      ⟨⟨.mv (.slot 18), some 109, none⟩, []⟩,
      ⟨⟨.lookup .i32 .nils (.slot 108) (.slot 109) false, some 110, none⟩, []⟩,
      ⟨⟨.faddr 0 (.slot 14), some 111, none⟩, []⟩,
      ⟨⟨.load false 1 (.slot 111), some 112, none⟩, []⟩,
      ⟨⟨.bslice 1 [(.int .i64 (.ofNat 0))] [(0, 1, (.slot 112))] 1, some 113, none⟩, [⟨.load false 1 (.slot 102), some 103, none⟩, ⟨.load false 1 (.slot 107), some 108, none⟩, ⟨.lookup .i32 .nils (.slot 108) (.slot 109) false, some 110, none⟩]⟩,
      ⟨⟨.append 1 8 (.slot 110) (.slot 113), some 114, none⟩, [⟨.load false 1 (.slot 102), some 103, none⟩]⟩,
      ⟨⟨.mapup .i32 (.slot 103) (.slot 104) (.slot 114), none, none⟩, []⟩])))
    (.region false [⟨⟨.bin .add 3 .num (.slot 96) (.const (.int .i64 (.ofNat 1))), some 115, none⟩, []⟩,
      ⟨⟨.mv (.slot 115), some 96, none⟩, []⟩])))))))
   (.seq (.region false [⟨⟨.mv (.slot 15), some 116, none⟩, []⟩,
     ⟨⟨.len .slice (.slot 116), some 117, none⟩, []⟩,
     ⟨⟨.bin .leq 3 .num (.slot 117) (.const (.int .i64 (.ofNat 1))), some 118, none⟩, []⟩])
   (.cond (.slot 118)
    (.region true [⟨⟨.mv (.slot 12), some 119, none⟩, []⟩,
      ⟨⟨.mv (.slot 12), some 120, none⟩, []⟩,
      ⟨⟨.nilCheck (.slot 120), some 121, none⟩, []⟩,
      ⟨⟨.faddr 4 (.slot 121), some 122, none⟩, []⟩,
      ⟨⟨.load false 1 (.slot 122), some 123, none⟩, []⟩,
      ⟨⟨.faddr 0 (.slot 14), some 124, none⟩, []⟩,
      ⟨⟨.load false 1 (.slot 124), some 125, none⟩, []⟩,
      ⟨⟨.bslice 1 [(.int .i64 (.ofNat 0))] [(0, 1, (.slot 125))] 1, some 126, none⟩, [⟨.load false 1 (.slot 122), some 123, none⟩]⟩,
      ⟨⟨.append 1 8 (.slot 123) (.slot 126), some 127, none⟩, []⟩,
      ⟨⟨.nilCheck (.slot 119), some 128, none⟩, []⟩,
      ⟨⟨.faddr 4 (.slot 128), some 129, none⟩, []⟩,
      ⟨⟨.store 1 (.slot 129) (.slot 127), none, none⟩, []⟩])
    .skip))))))))
   (.region false [⟨⟨.bin .add 3 .num (.slot 61) (.const (.int .i64 (.ofNat 1))), some 130, none⟩, []⟩,
     ⟨⟨.mv (.slot 130), some 61, none⟩, []⟩])))))))
  (.seq (.region false [⟨⟨.mv (.slot 12), some 131, none⟩, []⟩,
    ⟨⟨.nilCheck (.slot 131), some 132, none⟩, []⟩,
    ⟨⟨.faddr 4 (.slot 132), some 133, none⟩, []⟩,
    ⟨⟨.mkif 119 (.slot 133), some 134, none⟩, []⟩,
    ⟨⟨.call (.const (.func 61 [] [])) [(.slot 134)], some 135, none⟩, []⟩])
  (.seq (.region false [⟨⟨.alloc [.nils, .nils, (.int .i64 (.ofNat 0))], some 19, none⟩, []⟩])
  (.seq (.seq (.region false [⟨⟨.mv (.slot 1), some 136, none⟩, []⟩,
    ⟨⟨.len .slice (.slot 136), some 137, none⟩, []⟩,
    ⟨⟨.mv (.const (.int .i64 (.ofNat 0))), some 138, none⟩, []⟩])
  (.block 6 (.loop (.seq (.region false [⟨⟨.bin .lss 3 .num (.slot 138) (.slot 137), some 139, none⟩, []⟩])
   (.seq (.cond (.slot 139)
    .skip
    (.exit 6))
   (.seq (.block 7 (.seq (.region false [⟨⟨.iaddr 1 (.slot 136) (.slot 138), some 140, none⟩, []⟩,
     ⟨⟨.load false 1 (.slot 140), some 141, none⟩, []⟩,
     ⟨⟨.mv (.slot 141), some 21, none⟩, []⟩])
   (.seq (.region false [⟨⟨.mv (.slot 12), some 142, none⟩, []⟩,
     ⟨⟨.nilCheck (.slot 142), some 143, none⟩, []⟩,
     ⟨⟨.faddr 3 (.slot 143), some 144, none⟩, []⟩,
     ⟨⟨.load false 1 (.slot 144), some 145, none⟩, []⟩,
     ⟨⟨.mv (.slot 21), some 146, none⟩, []⟩,
     ⟨⟨.lookup .i32 (.bool false) (.slot 145) (.slot 146) false, some 147, none⟩, []⟩,
     ⟨⟨.un .not (.slot 147), some 148, none⟩, []⟩])
   (.cond (.slot 148)
    (.seq (.region false [⟨⟨.faddr 0 (.slot 19), some 149, none⟩, []⟩,
      ⟨⟨.load false 1 (.slot 149), some 150, none⟩, []⟩,
      ⟨⟨.mv (.slot 21), some 151, none⟩, []⟩,
      ⟨⟨.bslice 1 [(.int .i32 (.ofNat 0))] [(0, 1, (.slot 151))] 1, some 152, none⟩, []⟩,
      ⟨⟨.append 1 4 (.slot 150) (.slot 152), some 153, none⟩, []⟩,
      ⟨⟨.faddr 0 (.slot 19), some 154, none⟩, []⟩,
      ⟨⟨.store 1 (.slot 154) (.slot 153), none, none⟩, []⟩])
    (.region false [⟨⟨.mv (.slot 12), some 155, none⟩, []⟩,
      ⟨⟨.mv (.slot 21), some 156, none⟩, []⟩,
      ⟨⟨.call (.const (.func 62 [] [])) [(.slot 155), (.slot 156)], some 157, none⟩, []⟩]))
    .skip))))
   (.region false [⟨⟨.bin .add 3 .num (.slot 138) (.const (.int .i64 (.ofNat 1))), some 158, none⟩, []⟩,
     ⟨⟨.mv (.slot 158), some 138, none⟩, []⟩])))))))
  (.block 8 (.loop (.block 9 (.seq (.region false [⟨⟨.mv (.slot 12), some 160, none⟩, []⟩,
     ⟨⟨.call (.const (.func 63 [] [])) [(.slot 160)], some 161, none⟩, []⟩,
     ⟨⟨.mv (.slot 161), some 159, none⟩, []⟩,
     ⟨⟨.extract (.slot 159) 0, some 162, none⟩, []⟩,
     ⟨⟨.extract (.slot 159) 1, some 163, none⟩, []⟩,
     ⟨⟨.extract (.slot 159) 2, some 164, none⟩, []⟩,
     ⟨⟨.mv (.slot 162), some 22, none⟩, []⟩,
     ⟨⟨.mv (.slot 163), some 23, none⟩, []⟩,
     ⟨⟨.mv (.slot 164), some 24, none⟩, []⟩])
   (.seq (.block 10 (.seq (.region false [⟨⟨.mv (.slot 24), some 166, none⟩, []⟩,
     ⟨⟨.un .not (.slot 166), some 167, none⟩, []⟩,
     ⟨⟨.mv (.slot 167), some 165, none⟩, []⟩])
   (.cond (.slot 165)
    (.seq (.region false [⟨⟨.load true 3 (.slot 19), some 168, none⟩, []⟩,
      ⟨⟨.store 3 (.slot 6) (.slot 168), none, none⟩, []⟩,
      ⟨⟨.mv (.const (.int .i64 (.ofNat 0))), some 7, none⟩, []⟩])
    .ret)
    (.seq (.region false [⟨⟨.mv (.slot 23), some 170, none⟩, []⟩,
      ⟨⟨.bin .eql 24 .num (.slot 170) (.const (.int .i32 (.ofNat 0))), some 171, none⟩, []⟩,
      ⟨⟨.mv (.slot 171), some 169, none⟩, []⟩])
    (.cond (.slot 169)
     (.seq (.region false [⟨⟨.mv (.slot 22), some 172, none⟩, []⟩,
       ⟨⟨.faddr 2 (.slot 19), some 173, none⟩, []⟩,
       ⟨⟨.store 1 (.slot 173) (.slot 172), none, none⟩, []⟩])
     (.seq (.region false [⟨⟨.load true 3 (.slot 19), some 174, none⟩, []⟩,
       ⟨⟨.store 3 (.slot 6) (.slot 174), none, none⟩, []⟩,
       ⟨⟨.mv (.const (.int .i64 (.ofNat 0))), some 7, none⟩, []⟩])
     .ret))
     .skip)))))
   (.seq (.region true [⟨⟨.faddr 0 (.slot 19), some 175, none⟩, []⟩,
     ⟨⟨.load false 1 (.slot 175), some 176, none⟩, []⟩,
     ⟨⟨.mv (.slot 23), some 177, none⟩, []⟩,
     ⟨⟨.faddr 1 (.slot 19), some 180, none⟩, []⟩,
     ⟨⟨.load false 1 (.slot 180), some 181, none⟩, []⟩,
     ⟨⟨.mv (.slot 22), some 182, none⟩, []⟩,
     ⟨⟨.bslice 1 [(.int .i32 (.ofNat 0))] [(0, 1, (.slot 177))] 1, some 178, none⟩, [⟨.load false 1 (.slot 175), some 176, none⟩, ⟨.load false 1 (.slot 180), some 181, none⟩]⟩,
     ⟨⟨.append 1 4 (.slot 176) (.slot 178), some 179, none⟩, [⟨.load false 1 (.slot 180), some 181, none⟩]⟩,
     ⟨⟨.faddr 0 (.slot 19), some 185, none⟩, []⟩,
     ⟨⟨.bslice 1 [(.int .i64 (.ofNat 0))] [(0, 1, (.slot 182))] 1, some 183, none⟩, [⟨.load false 1 (.slot 175), some 176, none⟩, ⟨.load false 1 (.slot 180), some 181, none⟩]⟩,
     ⟨⟨.append 1 8 (.slot 181) (.slot 183), some 184, none⟩, []⟩,
     ⟨⟨.store 1 (.slot 185) (.slot 179), none, none⟩, []⟩,
     ⟨⟨.faddr 1 (.slot 19), some 186, none⟩, []⟩,
     ⟨⟨.store 1 (.slot 186) (.slot 184), none, none⟩, []⟩])
   (.region false [⟨⟨.mv (.slot 12), some 187, none⟩, []⟩,
     ⟨⟨.mv (.slot 23), some 188, none⟩, []⟩,
     ⟨⟨.call (.const (.func 62 [] [])) [(.slot 187), (.slot 188)], some 189, none⟩, []⟩])))))))))))))))),
  [.cell 6 true 3, .tmp 7]⟩
theorem xf43_ok : compFunc Tryz.prog Tryz.f43 = some xf43 := by kernel_rfl
/-- (threshing/unit.Trail).Hints -/
def xf44 : XFunc := ⟨(.seq (.region false [⟨⟨.box (.slot 0), some 1, none⟩, []⟩,
    ⟨⟨.mv (.const .nils), some 2, none⟩, []⟩])
  (.seq (.region false [⟨⟨.faddr 1 (.slot 1), some 4, none⟩, []⟩,
    ⟨⟨.load false 1 (.slot 4), some 5, none⟩, []⟩,
    ⟨⟨.call (.const (.func 18 [] [])) [(.slot 5)], some 6, none⟩, []⟩,
    ⟨⟨.mv (.slot 6), some 3, none⟩, []⟩])
  (.seq (.seq (.region false [⟨⟨.faddr 2 (.slot 1), some 7, none⟩, []⟩,
    ⟨⟨.load false 1 (.slot 7), some 8, none⟩, []⟩,
    ⟨⟨.bin .neq 2 .num (.slot 8) (.const (.int .i64 (.ofNat 0))), some 9, none⟩, []⟩])
  (.cond (.slot 9)
   (.region false [⟨⟨.mv (.slot 3), some 10, none⟩, []⟩,
     ⟨⟨.faddr 2 (.slot 1), some 11, none⟩, []⟩,
     ⟨⟨.load false 1 (.slot 11), some 12, none⟩, []⟩,
     ⟨⟨.bslice 1 [(.int .i64 (.ofNat 0))] [(0, 1, (.slot 12))] 1, some 13, none⟩, []⟩,
     ⟨⟨.append 1 8 (.slot 10) (.slot 13), some 14, none⟩, []⟩,
     ⟨⟨.mv (.slot 14), some 3, none⟩, []⟩])
   .skip))
  (.seq (.region false [⟨⟨.mv (.slot 3), some 15, none⟩, []⟩,
    ⟨⟨.mv (.slot 15), some 2, none⟩, []⟩])
  .ret)))),
  [.tmp 2]⟩
theorem xf44_ok : compFunc Tryz.prog Tryz.f44 = some xf44 := by kernel_rfl
/-- slices.Contains[threshing/api.Clause,threshing/api.Lit] -/
def xf45 : XFunc := ⟨(.seq (.region false [⟨⟨.mv (.const (.bool false)), some 4, none⟩, []⟩])
  (.seq (.region false [⟨⟨.mv (.slot 0), some 5, none⟩, []⟩,
    ⟨⟨.mv (.slot 1), some 6, none⟩, []⟩,
    ⟨⟨.call (.const (.func 64 [] [])) [(.slot 5), (.slot 6)], some 7, none⟩, []⟩,
    ⟨⟨.bin .geq 3 .num (.slot 7) (.const (.int .i64 (.ofNat 0))), some 8, none⟩, []⟩,
    ⟨⟨.mv (.slot 8), some 4, none⟩, []⟩])
  .ret)),
  [.tmp 4]⟩
theorem xf45_ok : compFunc Tryz.prog Tryz.f45 = some xf45 := by kernel_rfl
/-- (threshing/unit.Trail).Upto -/
def xf46 : XFunc := ⟨(.seq (.region false [⟨⟨.box (.slot 0), some 2, none⟩, []⟩,
    ⟨⟨.mv (.const .nils), some 4, none⟩, []⟩])
  (.seq (.region false [⟨⟨.faddr 0 (.slot 2), some 7, none⟩, []⟩,
    ⟨⟨.load false 1 (.slot 7), some 8, none⟩, []⟩,
    ⟨⟨.len .slice (.slot 8), some 9, none⟩, []⟩,
    ⟨⟨.faddr 1 (.slot 2), some 10, none⟩, []⟩,
    ⟨⟨.load false 1 (.slot 10), some 11, none⟩, []⟩,
    ⟨⟨.len .slice (.slot 11), some 12, none⟩, []⟩,
    ⟨⟨.bin .sub 3 .num (.slot 9) (.slot 12), some 13, none⟩, []⟩,
    ⟨⟨.mv (.slot 13), some 5, none⟩, []⟩])
  (.seq (.region false [⟨⟨.faddr 0 (.slot 2), some 14, none⟩, []⟩,
    ⟨⟨.load false 1 (.slot 14), some 15, none⟩, []⟩,
    ⟨⟨.mv (.slot 1), some 16, none⟩, []⟩,
    ⟨⟨.call (.const (.func 64 [] [])) [(.slot 15), (.slot 16)], some 17, none⟩, []⟩,
    ⟨⟨.mv (.slot 17), some 6, none⟩, []⟩])
  (.seq (.seq (.region false [⟨⟨.mv (.slot 6), some 18, none⟩, []⟩,
    ⟨⟨.mv (.slot 5), some 19, none⟩, []⟩,
    ⟨⟨.bin .lss 3 .num (.slot 18) (.slot 19), some 20, none⟩, []⟩])
  (.cond (.slot 20)
   (.seq (.region false [⟨⟨.mv (.const .nils), some 4, none⟩, []⟩])
   .ret)
   .skip))
  (.seq (.region false [⟨⟨.faddr 1 (.slot 2), some 21, none⟩, []⟩,
    ⟨⟨.load false 1 (.slot 21), some 22, none⟩, []⟩,
    ⟨⟨.mv (.slot 6), some 23, none⟩, []⟩,
    ⟨⟨.mv (.slot 5), some 24, none⟩, []⟩,
    ⟨⟨.bin .sub 3 .num (.slot 23) (.slot 24), some 25, none⟩, []⟩,
    ⟨⟨.bin .add 3 .num (.slot 25) (.const (.int .i64 (.ofNat 1))), some 26, none⟩, []⟩,
    ⟨⟨.slc 1 (.slot 22) none (some (.slot 26)) none, some 27, none⟩, []⟩,
    ⟨⟨.call (.const (.func 18 [] [])) [(.slot 27)], some 28, none⟩, []⟩,
    ⟨⟨.mv (.slot 28), some 4, none⟩, []⟩])
  .ret))))),
  [.tmp 4]⟩
theorem xf46_ok : compFunc Tryz.prog Tryz.f46 = some xf46 := by kernel_rfl
/-- threshing/base.both -/
def xf47 : XFunc := ⟨(.seq (.region false [⟨⟨.box (.slot 0), some 1, none⟩, []⟩,
    ⟨⟨.mv (.const (.bool false)), some 2, none⟩, []⟩])
  (.seq (.region false [⟨⟨.load false 1 (.slot 1), some 3, none⟩, []⟩,
    ⟨⟨.mkfunc 65 [] [(.slot 1)], some 4, none⟩, []⟩,
    ⟨⟨.call (.const (.func 31 [] [])) [(.slot 3), (.slot 4)], some 5, none⟩, []⟩,
    ⟨⟨.mv (.slot 5), some 2, none⟩, []⟩])
  .ret)),
  [.tmp 2]⟩
theorem xf47_ok : compFunc Tryz.prog Tryz.f47 = some xf47 := by kernel_rfl
/-- threshing/cnf.Subsumes -/
def xf48 : XFunc := ⟨(.seq (.region false [⟨⟨.box (.slot 1), some 3, none⟩, []⟩,
    ⟨⟨.mv (.const (.bool false)), some 4, none⟩, []⟩])
  (.seq (.region false [⟨⟨.mv (.slot 0), some 5, none⟩, []⟩,
    ⟨⟨.mkfunc 66 [] [(.slot 3)], some 6, none⟩, []⟩,
    ⟨⟨.call (.const (.func 31 [] [])) [(.slot 5), (.slot 6)], some 7, none⟩, []⟩,
    ⟨⟨.un .not (.slot 7), some 8, none⟩, []⟩,
    ⟨⟨.mv (.slot 8), some 4, none⟩, []⟩])
  .ret)),
  [.tmp 4]⟩
theorem xf48_ok : compFunc Tryz.prog Tryz.f48 = some xf48 := by kernel_rfl
/-- (*threshing/base.Base).remove -/
def xf49 : XFunc := ⟨(.seq (.region false [⟨⟨.box (.slot 1), some 3, none⟩, []⟩,
    ⟨⟨.mv (.const (.int .i64 (.ofNat 0))), some 4, none⟩, []⟩])
  (.seq (.seq (.region false [⟨⟨.mv (.slot 0), some 7, none⟩, []⟩,
    ⟨⟨.call (.const (.func 19 [] [])) [(.slot 7)], some 8, none⟩, []⟩])
  (.cond (.slot 8)
   (.seq (.region false [⟨⟨.mv (.const (.int .i64 (.ofNat 3))), some 4, none⟩, []⟩])
   .ret)
   .skip))
  (.seq (.region true [⟨⟨.mv (.slot 0), some 9, none⟩, []⟩,
    ⟨⟨.nilCheck (.slot 9), some 10, none⟩, []⟩,
    ⟨⟨.faddr 1 (.slot 10), some 11, none⟩, []⟩,
    ⟨⟨.load false 1 (.slot 11), some 12, none⟩, []⟩,
    ⟨⟨.faddr 0 (.slot 3), some 13, none⟩, []⟩,
    ⟨⟨.load false 1 (.slot 13), some 14, none⟩, []⟩,
    ⟨⟨.delete .i64 (.slot 12) (.slot 14), none, none⟩, []⟩])
  (.seq (.region true [⟨⟨.mv (.slot 0), some 15, none⟩, []⟩,
    ⟨⟨.nilCheck (.slot 15), some 16, none⟩, []⟩,
    ⟨⟨.faddr 3 (.slot 16), some 17, none⟩, []⟩,
    ⟨⟨.load false 1 (.slot 17), some 18, none⟩, []⟩,
    ⟨⟨.faddr 0 (.slot 3), some 19, none⟩, []⟩,
    ⟨⟨.load false 1 (.slot 19), some 20, none⟩, []⟩,
    ⟨⟨.delete .i64 (.slot 18) (.slot 20), none, none⟩, []⟩])
  (.seq (.seq (.region false [⟨⟨.faddr 1 (.slot 3), some 21, none⟩, []⟩,
    ⟨⟨.load false 1 (.slot 21), some 22, none⟩, []⟩,
    ⟨⟨.len .slice (.slot 22), some 23, none⟩, []⟩,
    ⟨⟨.mv (.const (.int .i64 (.ofNat 0))), some 24, none⟩, []⟩])
  (.block 0 (.loop (.seq (.region false [⟨⟨.bin .lss 3 .num (.slot 24) (.slot 23), some 25, none⟩, []⟩])
   (.seq (.cond (.slot 25)
    .skip
    (.exit 0))
   (.seq (.block 1 (.seq (.region false [⟨⟨.iaddr 1 (.slot 22) (.slot 24), some 26, none⟩, []⟩,
     ⟨⟨.load false 1 (.slot 26), some 27, none⟩, []⟩,
     ⟨⟨.mv (.slot 27), some 6, none⟩, []⟩])
   (.region true [⟨⟨.mv (.slot 0), some 28, none⟩, []⟩,
     ⟨⟨.nilCheck (.slot 28), some 29, none⟩, []⟩,
     ⟨⟨.faddr 2 (.slot 29), some 30, none⟩, []⟩,
     ⟨⟨.load false 1 (.slot 30), some 31, none⟩, []⟩,
     ⟨⟨.mv (.slot 6), some 32, none⟩, []⟩,
     ⟨⟨.lookup .i32 .nilm (.slot 31) (.slot 32) false, some 33, none⟩, []⟩,
     ⟨⟨.faddr 0 (.slot 3), some 34, none⟩, []⟩,
     ⟨⟨.load false 1 (.slot 34), some 35, none⟩, []⟩,
     ⟨⟨.delete .i64 (.slot 33) (.slot 35), none, none⟩, []⟩])))
   (.region false [⟨⟨.bin .add 3 .num (.slot 24) (.const (.int .i64 (.ofNat 1))), some 36, none⟩, []⟩,
     ⟨⟨.mv (.slot 36), some 24, none⟩, []⟩])))))))
  (.seq (.region true [⟨⟨.mv (.slot 0), some 37, none⟩, []⟩,
    ⟨⟨.mv (.slot 0), some 38, none⟩, []⟩,
    ⟨⟨.nilCheck (.slot 38), some 39, none⟩, []⟩,
    ⟨⟨.faddr 5 (.slot 39), some 40, none⟩, []⟩,
    ⟨⟨.load false 1 (.slot 40), some 41, none⟩, []⟩,
    ⟨⟨.mv (.slot 0), some 42, none⟩, []⟩,
    ⟨⟨.nilCheck (.slot 42), some 43, none⟩, []⟩,
    ⟨⟨.faddr 4 (.slot 43), some 44, none⟩, []⟩,
    ⟨⟨.load false 1 (.slot 44), some 45, none⟩, []⟩,
    ⟨⟨.faddr 0 (.slot 3), some 46, none⟩, []⟩,
    ⟨⟨.load false 1 (.slot 46), some 47, none⟩, []⟩,
    ⟨⟨.bslice 1 [(.int .i64 (.ofNat 0))] [(0, 1, (.slot 47))] 1, some 48, none⟩, [⟨.load false 1 (.slot 40), some 41, none⟩, ⟨.load false 1 (.slot 44), some 45, none⟩]⟩,
    ⟨⟨.build [(.int .u8 (.ofNat 0)), (.int .i64 (.ofNat 0)), .nils, .nils] [(0, 1, (.const (.int .u8 (.ofNat 2)))), (1, 1, (.slot 45)), (3, 1, (.slot 48))], some 49, none⟩, []⟩,
    ⟨⟨.bslice 4 [(.int .u8 (.ofNat 0)), (.int .i64 (.ofNat 0)), .nils, .nils] [(0, 4, (.slot 49))] 1, some 50, none⟩, [⟨.load false 1 (.slot 40), some 41, none⟩]⟩,
    ⟨⟨.append 4 64 (.slot 41) (.slot 50), some 51, none⟩, []⟩,
    ⟨⟨.nilCheck (.slot 37), some 52, none⟩, []⟩,
    ⟨⟨.faddr 5 (.slot 52), some 53, none⟩, []⟩,
    ⟨⟨.store 1 (.slot 53) (.slot 51), none, none⟩, []⟩])
  (.seq (.region false [⟨⟨.mv (.const (.int .i64 (.ofNat 0))), some 4, none⟩, []⟩])
  .ret))))))),
  [.tmp 4]⟩
theorem xf49_ok : compFunc Tryz.prog Tryz.f49 = some xf49 := by kernel_rfl
end Go.Proofs.YtdegagpgjejomaaGreat

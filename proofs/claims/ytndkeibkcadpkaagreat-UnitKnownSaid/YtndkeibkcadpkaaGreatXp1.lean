/- The functions of the program in X's code, printed by a program of ours; each is what the program's own is turned to. -/
import Derived.Test.YtndkeibkcadpkaaGreatProg
import Derived.Test.YtndkeibkcadpkaaGreatXc
import Derived.KernelRfl
namespace Go.Proofs.YtndkeibkcadpkaaGreat
open Go.Xr
/-- (*threshing/base.Base).Entries -/
def xf14 : XFunc := ⟨(.seq (.region false [⟨⟨.mv (.const .nils), some 2, none⟩, []⟩])
  (.seq (.seq (.region false [⟨⟨.mv (.slot 0), some 6, none⟩, []⟩,
    ⟨⟨.bin .eql 22 .ptr (.slot 6) (.const .nilp), some 7, none⟩, []⟩])
  (.cond (.slot 7)
   (.seq (.region false [⟨⟨.mv (.const .nils), some 2, none⟩, []⟩])
   .ret)
   .skip))
  (.seq (.region false [⟨⟨.mv (.const .nils), some 3, none⟩, []⟩])
  (.seq (.seq (.region false [⟨⟨.mv (.slot 0), some 8, none⟩, []⟩,
    ⟨⟨.nilCheck (.slot 8), some 9, none⟩, []⟩,
    ⟨⟨.faddr 1 (.slot 9), some 10, none⟩, []⟩,
    ⟨⟨.load false 1 (.slot 10), some 11, none⟩, []⟩,
    ⟨⟨.call (.const (.func 31 [] [])) [(.slot 11)], some 12, none⟩, []⟩,
    ⟨⟨.call (.const (.func 30 [] [])) [(.slot 12)], some 13, none⟩, []⟩,
    ⟨⟨.len .slice (.slot 13), some 14, none⟩, []⟩,
    ⟨⟨.mv (.const (.int .i64 (.ofNat 0))), some 15, none⟩, []⟩])
  (.block 0 (.loop (.seq (.region false [⟨⟨.bin .lss 3 .num (.slot 15) (.slot 14), some 16, none⟩, []⟩])
   (.seq (.cond (.slot 16)
    .skip
    (.exit 0))
   (.seq (.block 1 (.seq (.region false [⟨⟨.iaddr 1 (.slot 13) (.slot 15), some 17, none⟩, []⟩,
     ⟨⟨.load false 1 (.slot 17), some 18, none⟩, []⟩,
     ⟨⟨.mv (.slot 18), some 5, none⟩, []⟩])
   (.region false [⟨⟨.mv (.slot 3), some 19, none⟩, []⟩,
     ⟨⟨.mv (.slot 0), some 20, none⟩, []⟩,
     ⟨⟨.nilCheck (.slot 20), some 21, none⟩, []⟩,
     ⟨⟨.faddr 1 (.slot 21), some 22, none⟩, []⟩,
     ⟨⟨.load false 1 (.slot 22), some 23, none⟩, []⟩,
     ⟨⟨.mv (.slot 5), some 24, none⟩, []⟩,
     ⟨⟨.lookup .i64 (.agg [(.int .i64 (.ofNat 0)), .nils, (.bool false)]) (.slot 23) (.slot 24) false, some 25, none⟩, []⟩,
     ⟨⟨.call (.const (.func 32 [] [])) [(.slot 25)], some 26, none⟩, []⟩,
     ⟨⟨.bslice 3 [(.int .i64 (.ofNat 0)), .nils, (.bool false)] [(0, 3, (.slot 26))] 1, some 27, none⟩, []⟩,
     ⟨⟨.append 3 40 (.slot 19) (.slot 27), some 28, none⟩, []⟩,
     ⟨⟨.mv (.slot 28), some 3, none⟩, []⟩])))
   (.region false [⟨⟨.bin .add 3 .num (.slot 15) (.const (.int .i64 (.ofNat 1))), some 29, none⟩, []⟩,
     ⟨⟨.mv (.slot 29), some 15, none⟩, []⟩])))))))
  (.seq (.region false [⟨⟨.mv (.slot 3), some 30, none⟩, []⟩,
    ⟨⟨.mv (.slot 30), some 2, none⟩, []⟩])
  .ret))))),
  [.tmp 2]⟩
theorem xf14_ok : compFunc Tryz.prog Tryz.f14 = some xf14 := by kernel_rfl
/-- (*threshing/base.Base).Empty -/
def xf15 : XFunc := ⟨(.seq (.region false [⟨⟨.mv (.const (.int .i64 (.ofNat 0))), some 2, none⟩, []⟩,
    ⟨⟨.mv (.const (.bool false)), some 3, none⟩, []⟩])
  (.seq (.seq (.region false [⟨⟨.mv (.slot 0), some 4, none⟩, []⟩,
    ⟨⟨.bin .eql 22 .ptr (.slot 4) (.const .nilp), some 5, none⟩, []⟩,
    ⟨⟨.mv (.slot 5), some 6, none⟩, []⟩,
    ⟨⟨.mv (.slot 0), some 7, some (6, false)⟩, []⟩,
    ⟨⟨.nilCheck (.slot 7), some 8, some (6, false)⟩, []⟩,
    ⟨⟨.faddr 3 (.slot 8), some 9, some (6, false)⟩, []⟩,
    ⟨⟨.load false 1 (.slot 9), some 10, some (6, false)⟩, []⟩,
    ⟨⟨.len .map (.slot 10), some 11, some (6, false)⟩, []⟩,
    ⟨⟨.bin .eql 3 .num (.slot 11) (.const (.int .i64 (.ofNat 0))), some 12, some (6, false)⟩, []⟩,
    ⟨⟨.pick (.slot 6) (.const (.bool true)) (.slot 12), some 13, none⟩, []⟩])
  (.cond (.slot 13)
   (.seq (.region false [⟨⟨.mv (.const (.int .i64 (.ofNat 0))), some 2, none⟩, []⟩,
     ⟨⟨.mv (.const (.bool false)), some 3, none⟩, []⟩])
   .ret)
   .skip))
  (.seq (.region false [⟨⟨.mv (.slot 0), some 14, none⟩, []⟩,
    ⟨⟨.nilCheck (.slot 14), some 15, none⟩, []⟩,
    ⟨⟨.faddr 3 (.slot 15), some 16, none⟩, []⟩,
    ⟨⟨.load false 1 (.slot 16), some 17, none⟩, []⟩,
    ⟨⟨.call (.const (.func 35 [] [])) [(.slot 17)], some 18, none⟩, []⟩,
    ⟨⟨.call (.const (.func 34 [] [])) [(.slot 18)], some 19, none⟩, []⟩,
    ⟨⟨.call (.const (.func 33 [] [])) [(.slot 19)], some 20, none⟩, []⟩,
    ⟨⟨.mv (.slot 20), some 2, none⟩, []⟩,
    ⟨⟨.mv (.const (.bool true)), some 3, none⟩, []⟩])
  .ret))),
  [.tmp 2, .tmp 3]⟩
theorem xf15_ok : compFunc Tryz.prog Tryz.f15 = some xf15 := by kernel_rfl
/-- threshing/threshinglaw20.works -/
def xf16 : XFunc := ⟨(.seq (.region false [⟨⟨.mv (.const (.bool false)), some 0, none⟩, []⟩])
  (.seq (.region false [⟨⟨.call (.const (.func 5 [] [])) [], some 8, none⟩, []⟩,
    ⟨⟨.call (.const (.func 4 [] [])) [(.slot 8)], some 9, none⟩, []⟩,
    ⟨⟨.mv (.slot 9), some 7, none⟩, []⟩,
    ⟨⟨.extract (.slot 7) 0, some 10, none⟩, []⟩,
    ⟨⟨.extract (.slot 7) 1, some 11, none⟩, []⟩,
    ⟨⟨.mv (.slot 10), some 1, none⟩, []⟩,
    ⟨⟨.mv (.slot 11), some 2, none⟩, []⟩])
  (.seq (.seq (.region false [⟨⟨.mv (.slot 2), some 12, none⟩, []⟩,
    ⟨⟨.bin .neq 23 .num (.slot 12) (.const (.int .i64 (.ofNat 0))), some 13, none⟩, []⟩])
  (.cond (.slot 13)
   (.seq (.region false [⟨⟨.mv (.const (.bool false)), some 0, none⟩, []⟩])
   .ret)
   .skip))
  (.seq (.region false [⟨⟨.mv (.slot 1), some 15, none⟩, []⟩,
    ⟨⟨.bslice 1 [(.int .i32 (.ofNat 0))] [(0, 1, (.const (.int .i32 (.negSucc 2))))] 1, some 16, none⟩, []⟩,
    ⟨⟨.call (.const (.func 6 [] [])) [(.slot 15), (.slot 16), (.const (.int .i64 (.ofNat 0)))], some 17, none⟩, []⟩,
    ⟨⟨.mv (.slot 17), some 14, none⟩, []⟩,
    ⟨⟨.extract (.slot 14) 0, some 18, none⟩, []⟩,
    ⟨⟨.extract (.slot 14) 1, some 19, none⟩, []⟩,
    ⟨⟨.alloc [.nils, .nils, (.int .i64 (.ofNat 0))], some 3, none⟩, []⟩,
    ⟨⟨.store 3 (.slot 3) (.slot 18), none, none⟩, []⟩,
    ⟨⟨.mv (.slot 19), some 4, none⟩, []⟩])
  (.seq (.region false [⟨⟨.mv (.slot 1), some 21, none⟩, []⟩,
    ⟨⟨.call (.const (.func 11 [] [])) [(.slot 21), (.const (.int .i64 (.ofNat 9)))], some 22, none⟩, []⟩,
    ⟨⟨.mv (.slot 22), some 20, none⟩, []⟩,
    ⟨⟨.extract (.slot 20) 0, some 23, none⟩, []⟩,
    ⟨⟨.extract (.slot 20) 1, some 24, none⟩, []⟩,
    ⟨⟨.mv (.slot 23), some 5, none⟩, []⟩,
    ⟨⟨.mv (.slot 24), some 6, none⟩, []⟩])
  (.seq (.region false [⟨⟨.mv (.slot 4), some 25, none⟩, []⟩,
    ⟨⟨.bin .eql 23 .num (.slot 25) (.const (.int .i64 (.ofNat 0))), some 26, none⟩, []⟩,
    ⟨⟨.mv (.slot 26), some 27, none⟩, []⟩,
    ⟨⟨.faddr 0 (.slot 3), some 28, some (27, true)⟩, []⟩,
    ⟨⟨.load false 1 (.slot 28), some 29, some (27, true)⟩, []⟩,
    ⟨⟨.bslice 1 [(.int .i32 (.ofNat 0)), (.int .i32 (.ofNat 0)), (.int .i32 (.ofNat 0)), (.int .i32 (.ofNat 0)), (.int .i32 (.ofNat 0))] [(0, 1, (.const (.int .i32 (.negSucc 2)))), (1, 1, (.const (.int .i32 (.ofNat 1)))), (2, 1, (.const (.int .i32 (.ofNat 2)))), (3, 1, (.const (.int .i32 (.ofNat 4)))), (4, 1, (.const (.int .i32 (.ofNat 5))))] 5, some 30, some (27, true)⟩, []⟩,
    ⟨⟨.call (.const (.func 7 [] [])) [(.slot 29), (.slot 30)], some 31, some (27, true)⟩, []⟩,
    ⟨⟨.pick (.slot 27) (.slot 31) (.const (.bool false)), some 32, none⟩, []⟩,
    ⟨⟨.mv (.slot 32), some 33, none⟩, []⟩,
    ⟨⟨.load true 3 (.slot 3), some 34, some (33, true)⟩, []⟩,
    ⟨⟨.call (.const (.func 10 [] [])) [(.slot 34)], some 35, some (33, true)⟩, []⟩,
    ⟨⟨.bslice 1 [(.int .i64 (.ofNat 0)), (.int .i64 (.ofNat 0)), (.int .i64 (.ofNat 0)), (.int .i64 (.ofNat 0))] [(0, 1, (.const (.int .i64 (.ofNat 1)))), (1, 1, (.const (.int .i64 (.ofNat 2)))), (2, 1, (.const (.int .i64 (.ofNat 3)))), (3, 1, (.const (.int .i64 (.ofNat 5))))] 4, some 36, some (33, true)⟩, []⟩,
    ⟨⟨.call (.const (.func 8 [] [])) [(.slot 35), (.slot 36)], some 37, some (33, true)⟩, []⟩,
    ⟨⟨.pick (.slot 33) (.slot 37) (.const (.bool false)), some 38, none⟩, []⟩,
    ⟨⟨.mv (.slot 38), some 39, none⟩, []⟩,
    ⟨⟨.mv (.slot 5), some 40, some (39, true)⟩, []⟩,
    ⟨⟨.bin .eql 3 .num (.slot 40) (.const (.int .i64 (.ofNat 5))), some 41, some (39, true)⟩, []⟩,
    ⟨⟨.pick (.slot 39) (.slot 41) (.const (.bool false)), some 42, none⟩, []⟩,
    ⟨⟨.mv (.slot 42), some 43, none⟩, []⟩,
    ⟨⟨.mv (.slot 6), some 44, some (43, true)⟩, []⟩,
    ⟨⟨.bin .eql 23 .num (.slot 44) (.const (.int .i64 (.ofNat 0))), some 45, some (43, true)⟩, []⟩,
    ⟨⟨.pick (.slot 43) (.slot 45) (.const (.bool false)), some 46, none⟩, []⟩,
    ⟨⟨.mv (.slot 46), some 0, none⟩, []⟩])
  .ret)))))),
  [.tmp 0]⟩
theorem xf16_ok : compFunc Tryz.prog Tryz.f16 = some xf16 := by kernel_rfl
/-- threshing/cnf.Right -/
def xf17 : XFunc := ⟨(.seq (.region false [⟨⟨.box (.slot 0), some 1, none⟩, []⟩,
    ⟨⟨.mv (.const (.int .i64 (.ofNat 0))), some 2, none⟩, []⟩])
  (.seq (.block 0 (.seq (.seq (.region false [⟨⟨.faddr 0 (.slot 1), some 9, none⟩, []⟩,
    ⟨⟨.load false 1 (.slot 9), some 10, none⟩, []⟩,
    ⟨⟨.bin .lss 3 .num (.slot 10) (.const (.int .i64 (.ofNat 0))), some 11, none⟩, []⟩,
    ⟨⟨.mv (.slot 11), some 8, none⟩, []⟩])
  (.cond (.slot 8)
   .skip
   (.region false [⟨⟨.faddr 0 (.slot 1), some 12, none⟩, []⟩,
     ⟨⟨.load false 1 (.slot 12), some 13, none⟩, []⟩,
     ⟨⟨.bin .gtr 3 .num (.slot 13) (.const (.int .i64 (.ofNat 1048576))), some 14, none⟩, []⟩,
     ⟨⟨.mv (.slot 14), some 8, none⟩, []⟩])))
  (.cond (.slot 8)
   (.seq (.region false [⟨⟨.mv (.const (.int .i64 (.ofNat 2))), some 2, none⟩, []⟩])
   .ret)
   (.seq (.region false [⟨⟨.faddr 1 (.slot 1), some 16, none⟩, []⟩,
     ⟨⟨.load false 1 (.slot 16), some 17, none⟩, []⟩,
     ⟨⟨.len .slice (.slot 17), some 18, none⟩, []⟩,
     ⟨⟨.bin .gtr 3 .num (.slot 18) (.const (.int .i64 (.ofNat 1048576))), some 19, none⟩, []⟩,
     ⟨⟨.mv (.slot 19), some 15, none⟩, []⟩])
   (.cond (.slot 15)
    (.seq (.region false [⟨⟨.mv (.const (.int .i64 (.ofNat 3))), some 2, none⟩, []⟩])
    .ret)
    .skip)))))
  (.seq (.region false [⟨⟨.mv (.const (.int .i64 (.ofNat 16777216))), some 3, none⟩, []⟩])
  (.seq (.seq (.region false [⟨⟨.faddr 1 (.slot 1), some 20, none⟩, []⟩,
    ⟨⟨.load false 1 (.slot 20), some 21, none⟩, []⟩,
    ⟨⟨.len .slice (.slot 21), some 22, none⟩, []⟩,
    ⟨⟨.mv (.const (.int .i64 (.ofNat 0))), some 23, none⟩, []⟩])
  (.block 1 (.loop (.seq (.region false [⟨⟨.bin .lss 3 .num (.slot 23) (.slot 22), some 24, none⟩, []⟩])
   (.seq (.cond (.slot 24)
    .skip
    (.exit 1))
   (.seq (.block 2 (.seq (.region false [⟨⟨.iaddr 1 (.slot 21) (.slot 23), some 25, none⟩, []⟩,
     ⟨⟨.load false 1 (.slot 25), some 26, none⟩, []⟩,
     ⟨⟨.mv (.slot 26), some 5, none⟩, []⟩])
   (.seq (.region false [⟨⟨.mv (.slot 5), some 27, none⟩, []⟩,
     ⟨⟨.len .slice (.slot 27), some 28, none⟩, []⟩,
     ⟨⟨.mv (.const (.int .i64 (.ofNat 0))), some 29, none⟩, []⟩])
   (.block 3 (.loop (.seq (.region false [⟨⟨.bin .lss 3 .num (.slot 29) (.slot 28), some 30, none⟩, []⟩])
    (.seq (.cond (.slot 30)
     .skip
     (.exit 3))
    (.seq (.block 4 (.seq (.region false [⟨⟨.iaddr 1 (.slot 27) (.slot 29), some 31, none⟩, []⟩,
      ⟨⟨.load false 1 (.slot 31), some 32, none⟩, []⟩,
      ⟨⟨.mv (.slot 32), some 7, none⟩, []⟩])
    (.seq (.seq (.region false [⟨⟨.mv (.slot 3), some 33, none⟩, []⟩,
      ⟨⟨.bin .eql 3 .num (.slot 33) (.const (.int .i64 (.ofNat 0))), some 34, none⟩, []⟩])
    (.cond (.slot 34)
     (.seq (.region false [⟨⟨.mv (.const (.int .i64 (.ofNat 3))), some 2, none⟩, []⟩])
     .ret)
     .skip))
    (.seq (.region false [⟨⟨.mv (.slot 3), some 35, none⟩, []⟩,
      ⟨⟨.bin .sub 3 .num (.slot 35) (.const (.int .i64 (.ofNat 1))), some 36, none⟩, []⟩,
      ⟨⟨.mv (.slot 36), some 3, none⟩, []⟩])
    (.seq (.region true [⟨⟨.mv (.slot 7), some 37, none⟩, []⟩,
      ⟨⟨.bin .eql 37 .num (.slot 37) (.const (.int .i32 (.ofNat 0))), some 38, none⟩, []⟩,
      ⟨⟨.mv (.slot 38), some 39, none⟩, []⟩,
      ⟨⟨.mv (.slot 7), some 40, some (39, false)⟩, []⟩,
      ⟨⟨.faddr 0 (.slot 1), some 42, some (39, false)⟩, []⟩,
      ⟨⟨.load false 1 (.slot 42), some 43, some (39, false)⟩, []⟩,
      ⟨⟨.call (.const (.func 19 [] [])) [(.slot 40)], some 41, some (39, false)⟩, [⟨.load false 1 (.slot 42), some 43, some (39, false)⟩]⟩,
      ⟨⟨.bin .gtr 3 .num (.slot 41) (.slot 43), some 44, some (39, false)⟩, []⟩,
      ⟨⟨.pick (.slot 39) (.const (.bool true)) (.slot 44), some 45, none⟩, []⟩])
    (.cond (.slot 45)
     (.seq (.region false [⟨⟨.mv (.const (.int .i64 (.ofNat 4))), some 2, none⟩, []⟩])
     .ret)
     .skip))))))
    (.region false [⟨⟨.bin .add 3 .num (.slot 29) (.const (.int .i64 (.ofNat 1))), some 46, none⟩, []⟩,
      ⟨⟨.mv (.slot 46), some 29, none⟩, []⟩])))))))))
   (.region false [⟨⟨.bin .add 3 .num (.slot 23) (.const (.int .i64 (.ofNat 1))), some 47, none⟩, []⟩,
     ⟨⟨.mv (.slot 47), some 23, none⟩, []⟩])))))))
  (.seq (.region false [⟨⟨.mv (.const (.int .i64 (.ofNat 0))), some 2, none⟩, []⟩])
  .ret))))),
  [.tmp 2]⟩
theorem xf17_ok : compFunc Tryz.prog Tryz.f17 = some xf17 := by kernel_rfl
/-- (*threshing/base.Base).put -/
def xf18 : XFunc := ⟨(.seq (.region false [⟨⟨.mv (.slot 0), some 8, none⟩, []⟩,
    ⟨⟨.nilCheck (.slot 8), some 9, none⟩, []⟩,
    ⟨⟨.faddr 4 (.slot 9), some 10, none⟩, []⟩,
    ⟨⟨.load false 1 (.slot 10), some 11, none⟩, []⟩,
    ⟨⟨.bin .add 2 .num (.slot 11) (.const (.int .i64 (.ofNat 1))), some 12, none⟩, []⟩,
    ⟨⟨.nilCheck (.slot 8), some 13, none⟩, []⟩,
    ⟨⟨.faddr 4 (.slot 13), some 14, none⟩, []⟩,
    ⟨⟨.store 1 (.slot 14) (.slot 12), none, none⟩, []⟩])
  (.seq (.region true [⟨⟨.mv (.slot 0), some 15, none⟩, []⟩,
    ⟨⟨.nilCheck (.slot 15), some 16, none⟩, []⟩,
    ⟨⟨.faddr 1 (.slot 16), some 17, none⟩, []⟩,
    ⟨⟨.load false 1 (.slot 17), some 18, none⟩, []⟩,
    ⟨⟨.mv (.slot 0), some 19, none⟩, []⟩,
    ⟨⟨.nilCheck (.slot 19), some 20, none⟩, []⟩,
    ⟨⟨.faddr 4 (.slot 20), some 21, none⟩, []⟩,
    ⟨⟨.load false 1 (.slot 21), some 22, none⟩, []⟩,
    ⟨⟨.mv (.slot 0), some 23, none⟩, []⟩,
    ⟨⟨.nilCheck (.slot 23), some 24, none⟩, []⟩,
    ⟨⟨.faddr 4 (.slot 24), some 25, none⟩, []⟩,
    ⟨⟨.load false 1 (.slot 25), some 26, none⟩, []⟩,
    ⟨⟨.mv (.slot 1), some 27, none⟩, []⟩,
    ⟨⟨.mv (.slot 2), some 29, none⟩, []⟩,
    ⟨⟨.call (.const (.func 36 [] [])) [(.slot 27)], some 28, none⟩, [⟨.load false 1 (.slot 17), some 18, none⟩, ⟨.load false 1 (.slot 21), some 22, none⟩, ⟨.load false 1 (.slot 25), some 26, none⟩]⟩,
    ⟨⟨.build [(.int .i64 (.ofNat 0)), .nils, (.bool false)] [(0, 1, (.slot 26)), (1, 1, (.slot 28)), (2, 1, (.slot 29))], some 30, none⟩, []⟩,
    ⟨⟨.mapup .i64 (.slot 18) (.slot 22) (.slot 30), none, none⟩, []⟩])
  (.seq (.seq (.region false [⟨⟨.mv (.slot 1), some 31, none⟩, []⟩,
    ⟨⟨.len .slice (.slot 31), some 32, none⟩, []⟩,
    ⟨⟨.bin .eql 3 .num (.slot 32) (.const (.int .i64 (.ofNat 0))), some 33, none⟩, []⟩])
  (.cond (.slot 33)
   (.region true [⟨⟨.mv (.slot 0), some 34, none⟩, []⟩,
     ⟨⟨.nilCheck (.slot 34), some 35, none⟩, []⟩,
     ⟨⟨.faddr 3 (.slot 35), some 36, none⟩, []⟩,
     ⟨⟨.load false 1 (.slot 36), some 37, none⟩, []⟩,
     ⟨⟨.mv (.slot 0), some 38, none⟩, []⟩,
     ⟨⟨.nilCheck (.slot 38), some 39, none⟩, []⟩,
     ⟨⟨.faddr 4 (.slot 39), some 40, none⟩, []⟩,
     ⟨⟨.load false 1 (.slot 40), some 41, none⟩, []⟩,
     ⟨⟨.mapup .i64 (.slot 37) (.slot 41) (.const (.bool true)), none, none⟩, []⟩])
   .skip))
  (.seq (.region false [⟨⟨.mv (.slot 1), some 42, none⟩, []⟩,
    ⟨⟨.len .slice (.slot 42), some 43, none⟩, []⟩,
    ⟨⟨.mv (.const (.int .i64 (.ofNat 0))), some 44, none⟩, []⟩])
  (.block 0 (.loop (.seq (.region false [⟨⟨.bin .lss 3 .num (.slot 44) (.slot 43), some 45, none⟩, []⟩])
   (.seq (.cond (.slot 45)
    .skip
    (.exit 0))
   (.seq (.block 1 (.seq (.region false [⟨⟨.iaddr 1 (.slot 42) (.slot 44), some 46, none⟩, []⟩,
     ⟨⟨.load false 1 (.slot 46), some 47, none⟩, []⟩,
     ⟨⟨.mv (.slot 47), some 7, none⟩, []⟩])
   (.seq (.seq (.region false [⟨⟨.mv (.slot 0), some 48, none⟩, []⟩,
     ⟨⟨.nilCheck (.slot 48), some 49, none⟩, []⟩,
     ⟨⟨.faddr 2 (.slot 49), some 50, none⟩, []⟩,
     ⟨⟨.load false 1 (.slot 50), some 51, none⟩, []⟩,
     ⟨⟨.mv (.slot 7), some 52, none⟩, []⟩,
     ⟨⟨.lookup .i32 .nilm (.slot 51) (.slot 52) false, some 53, none⟩, []⟩,
     ⟨⟨.bin .eql 56 .map (.slot 53) (.const .nilm), some 54, none⟩, []⟩])
   (.cond (.slot 54)
    (.region false [⟨⟨.mv (.slot 0), some 55, none⟩, []⟩,
      ⟨⟨.nilCheck (.slot 55), some 56, none⟩, []⟩,
      ⟨⟨.faddr 2 (.slot 56), some 57, none⟩, []⟩,
      ⟨⟨.load false 1 (.slot 57), some 58, none⟩, []⟩,
      ⟨⟨.mv (.slot 7), some 59, none⟩, []⟩,
      ⟨⟨.mkmap .i64, some 60, none⟩, []⟩,
      ⟨⟨.mapup .i32 (.slot 58) (.slot 59) (.slot 60), none, none⟩, []⟩])
    .skip))
   (.region true [⟨⟨.mv (.slot 0), some 61, none⟩, []⟩,
     ⟨⟨.nilCheck (.slot 61), some 62, none⟩, []⟩,
     ⟨⟨.faddr 2 (.slot 62), some 63, none⟩, []⟩,
     ⟨⟨.load false 1 (.slot 63), some 64, none⟩, []⟩,
     ⟨⟨.mv (.slot 7), some 65, none⟩, []⟩,
     ⟨⟨.lookup .i32 .nilm (.slot 64) (.slot 65) false, some 66, none⟩, []⟩,
     ⟨⟨.mv (.slot 0), some 67, none⟩, []⟩,
     ⟨⟨.nilCheck (.slot 67), some 68, none⟩, []⟩,
     ⟨⟨.faddr 4 (.slot 68), some 69, none⟩, []⟩,
     ⟨⟨.load false 1 (.slot 69), some 70, none⟩, []⟩,
     ⟨⟨.mapup .i64 (.slot 66) (.slot 70) (.const (.bool true)), none, none⟩, []⟩]))))
   (.region false [⟨⟨.bin .add 3 .num (.slot 44) (.const (.int .i64 (.ofNat 1))), some 71, none⟩, []⟩,
     ⟨⟨.mv (.slot 71), some 44, none⟩, []⟩])))))))))),
  []⟩
theorem xf18_ok : compFunc Tryz.prog Tryz.f18 = some xf18 := by kernel_rfl
/-- threshing/cnf.Var -/
def xf19 : XFunc := ⟨(.seq (.region false [⟨⟨.mv (.const (.int .i64 (.ofNat 0))), some 2, none⟩, []⟩])
  (.seq (.region false [⟨⟨.mv (.slot 0), some 3, none⟩, []⟩,
    ⟨⟨.call (.const (.func 37 [] [])) [(.slot 3)], some 4, none⟩, []⟩,
    ⟨⟨.mv (.slot 4), some 2, none⟩, []⟩])
  .ret)),
  [.tmp 2]⟩
theorem xf19_ok : compFunc Tryz.prog Tryz.f19 = some xf19 := by kernel_rfl
/-- (*threshing/base.Base).Vars -/
def xf20 : XFunc := ⟨(.seq (.region false [⟨⟨.mv (.const (.int .i64 (.ofNat 0))), some 2, none⟩, []⟩])
  (.seq (.seq (.region false [⟨⟨.mv (.slot 0), some 3, none⟩, []⟩,
    ⟨⟨.bin .eql 22 .ptr (.slot 3) (.const .nilp), some 4, none⟩, []⟩])
  (.cond (.slot 4)
   (.seq (.region false [⟨⟨.mv (.const (.int .i64 (.ofNat 0))), some 2, none⟩, []⟩])
   .ret)
   .skip))
  (.seq (.region false [⟨⟨.mv (.slot 0), some 5, none⟩, []⟩,
    ⟨⟨.nilCheck (.slot 5), some 6, none⟩, []⟩,
    ⟨⟨.faddr 0 (.slot 6), some 7, none⟩, []⟩,
    ⟨⟨.load false 1 (.slot 7), some 8, none⟩, []⟩,
    ⟨⟨.mv (.slot 8), some 2, none⟩, []⟩])
  .ret))),
  [.tmp 2]⟩
theorem xf20_ok : compFunc Tryz.prog Tryz.f20 = some xf20 := by kernel_rfl
/-- threshing/cnf.Normal -/
def xf21 : XFunc := ⟨(.seq (.region false [⟨⟨.mv (.const .nils), some 2, none⟩, []⟩,
    ⟨⟨.mv (.const (.bool false)), some 3, none⟩, []⟩])
  (.seq (.region false [⟨⟨.mv (.slot 0), some 7, none⟩, []⟩,
    ⟨⟨.call (.const (.func 36 [] [])) [(.slot 7)], some 8, none⟩, []⟩,
    ⟨⟨.mv (.slot 8), some 4, none⟩, []⟩])
  (.seq (.region false [⟨⟨.mv (.slot 4), some 9, none⟩, []⟩,
    ⟨⟨.call (.const (.func 38 [] [])) [(.slot 9), (.const (.func 39 [] []))], some 10, none⟩, []⟩])
  (.seq (.region false [⟨⟨.mv (.slot 4), some 11, none⟩, []⟩,
    ⟨⟨.call (.const (.func 40 [] [])) [(.slot 11)], some 12, none⟩, []⟩,
    ⟨⟨.mv (.slot 12), some 4, none⟩, []⟩])
  (.seq (.region false [⟨⟨.mv (.const (.bool false)), some 5, none⟩, []⟩])
  (.seq (.seq (.region false [⟨⟨.mv (.slot 4), some 13, none⟩, []⟩,
    ⟨⟨.len .slice (.slot 13), some 14, none⟩, []⟩,
    ⟨⟨.mv (.const (.int .i64 (.ofNat 0))), some 15, none⟩, []⟩])
  (.block 0 (.loop (.seq (.region false [⟨⟨.bin .lss 3 .num (.slot 15) (.slot 14), some 16, none⟩, []⟩])
   (.seq (.cond (.slot 16)
    .skip
    (.exit 0))
   (.seq (.block 1 (.seq (.region false [⟨⟨.mv (.slot 15), some 17, none⟩, []⟩,
     ⟨⟨.mv (.slot 17), some 6, none⟩, []⟩])
   (.region true [⟨⟨.mv (.slot 5), some 18, none⟩, []⟩,
     ⟨⟨.mv (.slot 18), some 19, none⟩, []⟩,
     ⟨⟨.mv (.slot 6), some 20, some (19, false)⟩, []⟩,
     ⟨⟨.bin .gtr 3 .num (.slot 20) (.const (.int .i64 (.ofNat 0))), some 21, some (19, false)⟩, []⟩,
     ⟨⟨.mv (.slot 21), some 22, some (19, false)⟩, []⟩,
     ⟨⟨.mv (.slot 4), some 23, some (22, true)⟩, []⟩,
     ⟨⟨.mv (.slot 6), some 24, some (22, true)⟩, []⟩,
     ⟨⟨.iaddr 1 (.slot 23) (.slot 24), some 25, some (22, true)⟩, []⟩,
     ⟨⟨.load false 1 (.slot 25), some 26, some (22, true)⟩, []⟩,
     ⟨⟨.bin .gtr 37 .num (.slot 26) (.const (.int .i32 (.ofNat 0))), some 27, some (22, true)⟩, []⟩,
     ⟨⟨.pick (.slot 22) (.slot 27) (.const (.bool false)), some 28, some (19, false)⟩, []⟩,
     ⟨⟨.mv (.slot 28), some 29, some (19, false)⟩, []⟩,
     ⟨⟨.mv (.slot 4), some 30, some (29, true)⟩, []⟩,
     ⟨⟨.mv (.slot 6), some 31, some (29, true)⟩, []⟩,
     ⟨⟨.iaddr 1 (.slot 30) (.slot 31), some 32, some (29, true)⟩, []⟩,
     ⟨⟨.load false 1 (.slot 32), some 33, some (29, true)⟩, []⟩,
     ⟨⟨.mv (.slot 4), some 34, some (29, true)⟩, []⟩,
     ⟨⟨.mv (.slot 6), some 35, some (29, true)⟩, []⟩,
     ⟨⟨.bin .sub 3 .num (.slot 35) (.const (.int .i64 (.ofNat 1))), some 36, some (29, true)⟩, []⟩,
     ⟨⟨.iaddr 1 (.slot 34) (.slot 36), some 37, some (29, true)⟩, []⟩,
     ⟨⟨.load false 1 (.slot 37), some 38, some (29, true)⟩, []⟩,
     ⟨⟨.un .neg (.slot 38), some 39, some (29, true)⟩, []⟩,
     ⟨⟨.bin .eql 37 .num (.slot 33) (.slot 39), some 40, some (29, true)⟩, []⟩,
     ⟨⟨.pick (.slot 29) (.slot 40) (.const (.bool false)), some 41, some (19, false)⟩, []⟩,
     ⟨⟨.pick (.slot 19) (.const (.bool true)) (.slot 41), some 42, none⟩, []⟩,
     ⟨⟨.mv (.slot 42), some 5, none⟩, []⟩])))
   (.region false [⟨⟨.bin .add 3 .num (.slot 15) (.const (.int .i64 (.ofNat 1))), some 43, none⟩, []⟩,
     ⟨⟨.mv (.slot 43), some 15, none⟩, []⟩])))))))
  (.seq (.region false [⟨⟨.mv (.slot 4), some 44, none⟩, []⟩,
    ⟨⟨.call (.const (.func 41 [] [])) [(.slot 44)], some 45, none⟩, []⟩,
    ⟨⟨.mv (.slot 5), some 46, none⟩, []⟩,
    ⟨⟨.mv (.slot 45), some 2, none⟩, []⟩,
    ⟨⟨.mv (.slot 46), some 3, none⟩, []⟩])
  .ret))))))),
  [.tmp 2, .tmp 3]⟩
theorem xf21_ok : compFunc Tryz.prog Tryz.f21 = some xf21 := by kernel_rfl
/-- container/heap.Init -/
def xf22 : XFunc := ⟨(.seq (.region false [⟨⟨.mv (.slot 0), some 4, none⟩, []⟩,
    ⟨⟨.invoke (.slot 4) [(17, 125, none), (72, 44, none), (76, 44, some (false, 1))] [], some 5, none⟩, []⟩,
    ⟨⟨.mv (.slot 5), some 2, none⟩, []⟩])
  (.seq (.region false [⟨⟨.mv (.slot 2), some 6, none⟩, []⟩,
    ⟨⟨.bin .quo 3 .num (.slot 6) (.const (.int .i64 (.ofNat 2))), some 7, none⟩, []⟩,
    ⟨⟨.bin .sub 3 .num (.slot 7) (.const (.int .i64 (.ofNat 1))), some 8, none⟩, []⟩,
    ⟨⟨.mv (.slot 8), some 3, none⟩, []⟩])
  (.block 0 (.loop (.seq (.seq (.region false [⟨⟨.mv (.slot 3), some 9, none⟩, []⟩,
     ⟨⟨.bin .geq 3 .num (.slot 9) (.const (.int .i64 (.ofNat 0))), some 10, none⟩, []⟩])
   (.cond (.slot 10)
    .skip
    (.exit 0)))
   (.seq (.block 1 (.region false [⟨⟨.mv (.slot 0), some 13, none⟩, []⟩,
     ⟨⟨.mv (.slot 3), some 14, none⟩, []⟩,
     ⟨⟨.mv (.slot 2), some 15, none⟩, []⟩,
     ⟨⟨.call (.const (.func 42 [] [])) [(.slot 13), (.slot 14), (.slot 15)], some 16, none⟩, []⟩]))
   (.region false [⟨⟨.mv (.slot 3), some 11, none⟩, []⟩,
     ⟨⟨.bin .sub 3 .num (.slot 11) (.const (.int .i64 (.ofNat 1))), some 12, none⟩, []⟩,
     ⟨⟨.mv (.slot 12), some 3, none⟩, []⟩]))))))),
  []⟩
theorem xf22_ok : compFunc Tryz.prog Tryz.f22 = some xf22 := by kernel_rfl
/-- (*threshing/unit.state).set -/
def xf23 : XFunc := ⟨(.seq (.region false [⟨⟨.mv (.slot 0), some 6, none⟩, []⟩,
    ⟨⟨.nilCheck (.slot 6), some 7, none⟩, []⟩,
    ⟨⟨.faddr 3 (.slot 7), some 8, none⟩, []⟩,
    ⟨⟨.load false 1 (.slot 8), some 9, none⟩, []⟩,
    ⟨⟨.mv (.slot 1), some 10, none⟩, []⟩,
    ⟨⟨.mapup .i32 (.slot 9) (.slot 10) (.const (.bool true)), none, none⟩, []⟩])
  (.seq (.region false [⟨⟨.mv (.slot 0), some 11, none⟩, []⟩,
    ⟨⟨.nilCheck (.slot 11), some 12, none⟩, []⟩,
    ⟨⟨.faddr 2 (.slot 12), some 13, none⟩, []⟩,
    ⟨⟨.load false 1 (.slot 13), some 14, none⟩, []⟩,
    ⟨⟨.mv (.slot 1), some 15, none⟩, []⟩,
    ⟨⟨.un .neg (.slot 15), some 16, none⟩, []⟩,
    ⟨⟨.lookup .i32 .nils (.slot 14) (.slot 16) false, some 17, none⟩, []⟩,
    ⟨⟨.len .slice (.slot 17), some 18, none⟩, []⟩,
    ⟨⟨.mv (.const (.int .i64 (.ofNat 0))), some 19, none⟩, []⟩])
  (.block 0 (.loop (.seq (.region false [⟨⟨.bin .lss 3 .num (.slot 19) (.slot 18), some 20, none⟩, []⟩])
   (.seq (.cond (.slot 20)
    .skip
    (.exit 0))
   (.seq (.block 1 (.seq (.region false [⟨⟨.iaddr 1 (.slot 17) (.slot 19), some 21, none⟩, []⟩,
     ⟨⟨.load false 1 (.slot 21), some 22, none⟩, []⟩,
     ⟨⟨.mv (.slot 22), some 5, none⟩, []⟩])
   (.seq (.region false [⟨⟨.mv (.slot 0), some 23, none⟩, []⟩,
     ⟨⟨.nilCheck (.slot 23), some 24, none⟩, []⟩,
     ⟨⟨.faddr 1 (.slot 24), some 25, none⟩, []⟩,
     ⟨⟨.load false 1 (.slot 25), some 26, none⟩, []⟩,
     ⟨⟨.mv (.slot 5), some 27, none⟩, []⟩,
     ⟨⟨.lookup .i64 (.int .i64 (.ofNat 0)) (.slot 26) (.slot 27) false, some 28, none⟩, []⟩,
     ⟨⟨.bin .sub 3 .num (.slot 28) (.const (.int .i64 (.ofNat 1))), some 29, none⟩, []⟩,
     ⟨⟨.mapup .i64 (.slot 26) (.slot 27) (.slot 29), none, none⟩, []⟩])
   (.seq (.region false [⟨⟨.mv (.slot 0), some 30, none⟩, []⟩,
     ⟨⟨.nilCheck (.slot 30), some 31, none⟩, []⟩,
     ⟨⟨.faddr 1 (.slot 31), some 32, none⟩, []⟩,
     ⟨⟨.load false 1 (.slot 32), some 33, none⟩, []⟩,
     ⟨⟨.mv (.slot 5), some 34, none⟩, []⟩,
     ⟨⟨.lookup .i64 (.int .i64 (.ofNat 0)) (.slot 33) (.slot 34) false, some 35, none⟩, []⟩,
     ⟨⟨.bin .leq 3 .num (.slot 35) (.const (.int .i64 (.ofNat 1))), some 36, none⟩, []⟩])
   (.cond (.slot 36)
    (.region false [⟨⟨.mv (.slot 0), some 37, none⟩, []⟩,
      ⟨⟨.nilCheck (.slot 37), some 38, none⟩, []⟩,
      ⟨⟨.faddr 4 (.slot 38), some 39, none⟩, []⟩,
      ⟨⟨.mkif 76 (.slot 39), some 40, none⟩, []⟩,
      ⟨⟨.mv (.slot 5), some 41, none⟩, []⟩,
      ⟨⟨.mkif 2 (.slot 41), some 42, none⟩, []⟩,
      ⟨⟨.call (.const (.func 43 [] [])) [(.slot 40), (.slot 42)], some 43, none⟩, []⟩])
    .skip)))))
   (.region false [⟨⟨.bin .add 3 .num (.slot 19) (.const (.int .i64 (.ofNat 1))), some 44, none⟩, []⟩,
     ⟨⟨.mv (.slot 44), some 19, none⟩, []⟩])))))))),
  []⟩
theorem xf23_ok : compFunc Tryz.prog Tryz.f23 = some xf23 := by kernel_rfl
/-- (*threshing/unit.state).next -/
def xf24 : XFunc := ⟨(.seq (.region false [⟨⟨.box (.slot 0), some 1, none⟩, []⟩,
    ⟨⟨.mv (.const (.int .i64 (.ofNat 0))), some 2, none⟩, []⟩,
    ⟨⟨.mv (.const (.int .i32 (.ofNat 0))), some 3, none⟩, []⟩,
    ⟨⟨.mv (.const (.bool false)), some 4, none⟩, []⟩])
  (.seq (.block 0 (.loop (.seq (.seq (.region false [⟨⟨.load false 1 (.slot 1), some 8, none⟩, []⟩,
     ⟨⟨.nilCheck (.slot 8), some 9, none⟩, []⟩,
     ⟨⟨.faddr 4 (.slot 9), some 10, none⟩, []⟩,
     ⟨⟨.load false 1 (.slot 10), some 11, none⟩, []⟩,
     ⟨⟨.call (.const (.func 44 [] [])) [(.slot 11)], some 12, none⟩, []⟩,
     ⟨⟨.bin .gtr 3 .num (.slot 12) (.const (.int .i64 (.ofNat 0))), some 13, none⟩, []⟩])
   (.cond (.slot 13)
    .skip
    (.exit 0)))
   (.block 1 (.seq (.region false [⟨⟨.load false 1 (.slot 1), some 14, none⟩, []⟩,
     ⟨⟨.nilCheck (.slot 14), some 15, none⟩, []⟩,
     ⟨⟨.faddr 4 (.slot 15), some 16, none⟩, []⟩,
     ⟨⟨.mkif 76 (.slot 16), some 17, none⟩, []⟩,
     ⟨⟨.call (.const (.func 45 [] [])) [(.slot 17)], some 18, none⟩, []⟩,
     ⟨⟨.tassert 2 (.int .i64 (.ofNat 0)) false (.slot 18), some 19, none⟩, []⟩,
     ⟨⟨.mv (.slot 19), some 5, none⟩, []⟩])
   (.seq (.region false [⟨⟨.mkfunc 46 [] [(.slot 1)], some 20, none⟩, []⟩,
     ⟨⟨.mv (.slot 20), some 6, none⟩, []⟩])
   (.seq (.seq (.region false [⟨⟨.load false 1 (.slot 1), some 21, none⟩, []⟩,
     ⟨⟨.nilCheck (.slot 21), some 22, none⟩, []⟩,
     ⟨⟨.faddr 0 (.slot 22), some 23, none⟩, []⟩,
     ⟨⟨.load false 1 (.slot 23), some 24, none⟩, []⟩,
     ⟨⟨.mv (.slot 5), some 25, none⟩, []⟩,
     ⟨⟨.lookup .i64 .nils (.slot 24) (.slot 25) false, some 26, none⟩, []⟩,
     ⟨⟨.mv (.slot 6), some 27, none⟩, []⟩,
     ⟨⟨.call (.const (.func 47 [] [])) [(.slot 26), (.slot 27)], some 28, none⟩, []⟩])
   (.cond (.slot 28)
    (.exit 1)
    .skip))
   (.seq (.region false [⟨⟨.load false 1 (.slot 1), some 29, none⟩, []⟩,
     ⟨⟨.nilCheck (.slot 29), some 30, none⟩, []⟩,
     ⟨⟨.faddr 0 (.slot 30), some 31, none⟩, []⟩,
     ⟨⟨.load false 1 (.slot 31), some 32, none⟩, []⟩,
     ⟨⟨.mv (.slot 5), some 33, none⟩, []⟩,
     ⟨⟨.lookup .i64 .nils (.slot 32) (.slot 33) false, some 34, none⟩, []⟩,
     ⟨⟨.mkfunc 49 [] [(.slot 1)], some 35, none⟩, []⟩,
     ⟨⟨.call (.const (.func 48 [] [])) [(.slot 34), (.slot 35)], some 36, none⟩, []⟩,
     ⟨⟨.mv (.slot 36), some 7, none⟩, []⟩])
   (.seq (.seq (.region false [⟨⟨.mv (.slot 7), some 37, none⟩, []⟩,
     ⟨⟨.bin .lss 3 .num (.slot 37) (.const (.int .i64 (.ofNat 0))), some 38, none⟩, []⟩])
   (.cond (.slot 38)
    (.seq (.region false [⟨⟨.mv (.slot 5), some 39, none⟩, []⟩,
      ⟨⟨.mv (.slot 39), some 2, none⟩, []⟩,
      ⟨⟨.mv (.const (.int .i32 (.ofNat 0))), some 3, none⟩, []⟩,
      ⟨⟨.mv (.const (.bool true)), some 4, none⟩, []⟩])
    .ret)
    .skip))
   (.seq (.region true [⟨⟨.mv (.slot 5), some 40, none⟩, []⟩,
     ⟨⟨.load false 1 (.slot 1), some 41, none⟩, []⟩,
     ⟨⟨.nilCheck (.slot 41), some 42, none⟩, []⟩,
     ⟨⟨.faddr 0 (.slot 42), some 43, none⟩, []⟩,
     ⟨⟨.load false 1 (.slot 43), some 44, none⟩, []⟩,
     ⟨⟨.mv (.slot 5), some 45, none⟩, []⟩,
     ⟨⟨.lookup .i64 .nils (.slot 44) (.slot 45) false, some 46, none⟩, []⟩,
     ⟨⟨.mv (.slot 7), some 47, none⟩, []⟩,
     ⟨⟨.iaddr 1 (.slot 46) (.slot 47), some 48, none⟩, []⟩,
     ⟨⟨.load false 1 (.slot 48), some 49, none⟩, []⟩,
     ⟨⟨.mv (.slot 40), some 2, none⟩, []⟩,
     ⟨⟨.mv (.slot 49), some 3, none⟩, []⟩,
     ⟨⟨.mv (.const (.bool true)), some 4, none⟩, []⟩])
   .ret))))))))))
  (.seq (.region false [⟨⟨.mv (.const (.int .i64 (.ofNat 0))), some 2, none⟩, []⟩,
    ⟨⟨.mv (.const (.int .i32 (.ofNat 0))), some 3, none⟩, []⟩,
    ⟨⟨.mv (.const (.bool false)), some 4, none⟩, []⟩])
  .ret))),
  [.tmp 2, .tmp 3, .tmp 4]⟩
theorem xf24_ok : compFunc Tryz.prog Tryz.f24 = some xf24 := by kernel_rfl
/-- slices.Index[threshing/api.Clause,threshing/api.Lit] -/
def xf25 : XFunc := ⟨(.seq (.region false [⟨⟨.mv (.const (.int .i64 (.ofNat 0))), some 4, none⟩, []⟩])
  (.seq (.seq (.region false [⟨⟨.mv (.slot 0), some 6, none⟩, []⟩,
    ⟨⟨.len .slice (.slot 6), some 7, none⟩, []⟩,
    ⟨⟨.mv (.const (.int .i64 (.ofNat 0))), some 8, none⟩, []⟩])
  (.block 0 (.loop (.seq (.region false [⟨⟨.bin .lss 3 .num (.slot 8) (.slot 7), some 9, none⟩, []⟩])
   (.seq (.cond (.slot 9)
    .skip
    (.exit 0))
   (.seq (.block 1 (.seq (.region false [⟨⟨.mv (.slot 8), some 10, none⟩, []⟩,
     ⟨⟨.mv (.slot 10), some 5, none⟩, []⟩])
   (.seq (.region false [⟨⟨.mv (.slot 1), some 11, none⟩, []⟩,
     ⟨⟨.mv (.slot 0), some 12, none⟩, []⟩,
     ⟨⟨.mv (.slot 5), some 13, none⟩, []⟩,
     ⟨⟨.iaddr 1 (.slot 12) (.slot 13), some 14, none⟩, []⟩,
     ⟨⟨.load false 1 (.slot 14), some 15, none⟩, []⟩,
     ⟨⟨.bin .eql 37 .num (.slot 11) (.slot 15), some 16, none⟩, []⟩])
   (.cond (.slot 16)
    (.seq (.region false [⟨⟨.mv (.slot 5), some 17, none⟩, []⟩,
      ⟨⟨.mv (.slot 17), some 4, none⟩, []⟩])
    .ret)
    .skip))))
   (.region false [⟨⟨.bin .add 3 .num (.slot 8) (.const (.int .i64 (.ofNat 1))), some 18, none⟩, []⟩,
     ⟨⟨.mv (.slot 18), some 8, none⟩, []⟩])))))))
  (.seq (.region false [⟨⟨.mv (.const (.int .i64 (.negSucc 0))), some 4, none⟩, []⟩])
  .ret))),
  [.tmp 4]⟩
theorem xf25_ok : compFunc Tryz.prog Tryz.f25 = some xf25 := by kernel_rfl
/-- slices.Clone[[]int64,int64] -/
def xf26 : XFunc := ⟨(.seq (.region false [⟨⟨.mv (.const .nils), some 2, none⟩, []⟩])
  (.seq (.seq (.region false [⟨⟨.mv (.slot 0), some 3, none⟩, []⟩,
    ⟨⟨.bin .eql 32 .slice (.slot 3) (.const .nils), some 4, none⟩, []⟩])
  (.cond (.slot 4)
   (.seq (.region false [⟨⟨.mv (.const .nils), some 2, none⟩, []⟩])
   .ret)
   .skip))
  (.seq (.region false [⟨⟨.bslice 1 [] [] 0, some 5, none⟩, []⟩,
    ⟨⟨.mv (.slot 0), some 6, none⟩, []⟩,
    ⟨⟨.append 1 8 (.slot 5) (.slot 6), some 7, none⟩, []⟩,
    ⟨⟨.mv (.slot 7), some 2, none⟩, []⟩])
  .ret))),
  [.tmp 2]⟩
theorem xf26_ok : compFunc Tryz.prog Tryz.f26 = some xf26 := by kernel_rfl
/-- (*threshing/base.Base).Add -/
def xf27 : XFunc := ⟨(.seq (.region false [⟨⟨.mv (.const (.int .i64 (.ofNat 0))), some 8, none⟩, []⟩,
    ⟨⟨.mv (.const (.int .i64 (.ofNat 0))), some 9, none⟩, []⟩])
  (.seq (.block 0 (.seq (.region false [⟨⟨.mv (.slot 0), some 12, none⟩, []⟩,
    ⟨⟨.bin .eql 22 .ptr (.slot 12) (.const .nilp), some 13, none⟩, []⟩,
    ⟨⟨.mv (.slot 13), some 11, none⟩, []⟩])
  (.cond (.slot 11)
   (.seq (.region false [⟨⟨.mv (.const (.int .i64 (.ofNat 0))), some 8, none⟩, []⟩,
     ⟨⟨.mv (.const (.int .i64 (.ofNat 1))), some 9, none⟩, []⟩])
   .ret)
   (.seq (.region false [⟨⟨.mv (.slot 0), some 15, none⟩, []⟩,
     ⟨⟨.call (.const (.func 50 [] [])) [(.slot 15)], some 16, none⟩, []⟩,
     ⟨⟨.mv (.slot 16), some 14, none⟩, []⟩])
   (.cond (.slot 14)
    (.seq (.region false [⟨⟨.mv (.const (.int .i64 (.ofNat 0))), some 8, none⟩, []⟩,
      ⟨⟨.mv (.const (.int .i64 (.ofNat 3))), some 9, none⟩, []⟩])
    .ret)
    (.seq (.region false [⟨⟨.mv (.slot 0), some 18, none⟩, []⟩,
      ⟨⟨.mv (.slot 1), some 19, none⟩, []⟩,
      ⟨⟨.call (.const (.func 51 [] [])) [(.slot 18), (.slot 19)], some 20, none⟩, []⟩,
      ⟨⟨.un .not (.slot 20), some 21, none⟩, []⟩,
      ⟨⟨.mv (.slot 21), some 17, none⟩, []⟩])
    (.cond (.slot 17)
     (.seq (.region false [⟨⟨.mv (.const (.int .i64 (.ofNat 0))), some 8, none⟩, []⟩,
       ⟨⟨.mv (.const (.int .i64 (.ofNat 4))), some 9, none⟩, []⟩])
     .ret)
     .skip)))))))
  (.seq (.seq (.region false [⟨⟨.mv (.slot 0), some 22, none⟩, []⟩,
    ⟨⟨.mv (.slot 1), some 23, none⟩, []⟩,
    ⟨⟨.mv (.slot 2), some 24, none⟩, []⟩,
    ⟨⟨.call (.const (.func 52 [] [])) [(.slot 22), (.slot 23), (.slot 24)], some 25, none⟩, []⟩,
    ⟨⟨.mv (.slot 25), some 10, none⟩, []⟩])
  (.seq (.region false [⟨⟨.mv (.slot 10), some 26, none⟩, []⟩,
    ⟨⟨.bin .neq 23 .num (.slot 26) (.const (.int .i64 (.ofNat 0))), some 27, none⟩, []⟩])
  (.cond (.slot 27)
   (.seq (.region false [⟨⟨.mv (.slot 10), some 28, none⟩, []⟩,
     ⟨⟨.mv (.const (.int .i64 (.ofNat 0))), some 8, none⟩, []⟩,
     ⟨⟨.mv (.slot 28), some 9, none⟩, []⟩])
   .ret)
   .skip)))
  (.seq (.region false [⟨⟨.mv (.slot 0), some 29, none⟩, []⟩,
    ⟨⟨.mv (.slot 1), some 30, none⟩, []⟩,
    ⟨⟨.mv (.slot 3), some 31, none⟩, []⟩,
    ⟨⟨.call (.const (.func 18 [] [])) [(.slot 29), (.slot 30), (.slot 31)], some 32, none⟩, []⟩])
  (.seq (.region true [⟨⟨.mv (.slot 0), some 33, none⟩, []⟩,
    ⟨⟨.mv (.slot 0), some 34, none⟩, []⟩,
    ⟨⟨.nilCheck (.slot 34), some 35, none⟩, []⟩,
    ⟨⟨.faddr 5 (.slot 35), some 36, none⟩, []⟩,
    ⟨⟨.load false 1 (.slot 36), some 37, none⟩, []⟩,
    ⟨⟨.mv (.slot 0), some 38, none⟩, []⟩,
    ⟨⟨.nilCheck (.slot 38), some 39, none⟩, []⟩,
    ⟨⟨.faddr 4 (.slot 39), some 40, none⟩, []⟩,
    ⟨⟨.load false 1 (.slot 40), some 41, none⟩, []⟩,
    ⟨⟨.mv (.slot 1), some 42, none⟩, []⟩,
    ⟨⟨.mv (.slot 2), some 44, none⟩, []⟩,
    ⟨⟨.call (.const (.func 36 [] [])) [(.slot 42)], some 43, none⟩, [⟨.load false 1 (.slot 36), some 37, none⟩, ⟨.load false 1 (.slot 40), some 41, none⟩]⟩,
    ⟨⟨.call (.const (.func 26 [] [])) [(.slot 44)], some 45, none⟩, [⟨.load false 1 (.slot 36), some 37, none⟩, ⟨.load false 1 (.slot 40), some 41, none⟩]⟩,
    ⟨⟨.build [(.int .u8 (.ofNat 0)), (.int .i64 (.ofNat 0)), .nils, .nils] [(0, 1, (.const (.int .u8 (.ofNat 1)))), (1, 1, (.slot 41)), (2, 1, (.slot 43)), (3, 1, (.slot 45))], some 46, none⟩, []⟩,
    ⟨⟨.bslice 4 [(.int .u8 (.ofNat 0)), (.int .i64 (.ofNat 0)), .nils, .nils] [(0, 4, (.slot 46))] 1, some 47, none⟩, [⟨.load false 1 (.slot 36), some 37, none⟩]⟩,
    ⟨⟨.append 4 64 (.slot 37) (.slot 47), some 48, none⟩, []⟩,
    ⟨⟨.nilCheck (.slot 33), some 49, none⟩, []⟩,
    ⟨⟨.faddr 5 (.slot 49), some 50, none⟩, []⟩,
    ⟨⟨.store 1 (.slot 50) (.slot 48), none, none⟩, []⟩])
  (.seq (.region true [⟨⟨.mv (.slot 0), some 51, none⟩, []⟩,
    ⟨⟨.mv (.slot 0), some 52, none⟩, []⟩,
    ⟨⟨.nilCheck (.slot 52), some 53, none⟩, []⟩,
    ⟨⟨.faddr 4 (.slot 53), some 54, none⟩, []⟩,
    ⟨⟨.load false 1 (.slot 54), some 55, none⟩, []⟩,
    ⟨⟨.mv (.slot 3), some 56, none⟩, []⟩,
    ⟨⟨.mv (.slot 1), some 57, none⟩, []⟩,
    ⟨⟨.mv (.slot 2), some 59, none⟩, []⟩,
    ⟨⟨.call (.const (.func 36 [] [])) [(.slot 57)], some 58, none⟩, [⟨.load false 1 (.slot 54), some 55, none⟩]⟩,
    ⟨⟨.call (.const (.func 26 [] [])) [(.slot 59)], some 60, none⟩, [⟨.load false 1 (.slot 54), some 55, none⟩]⟩,
    ⟨⟨.build [(.int .u8 (.ofNat 0)), (.int .i64 (.ofNat 0)), (.int .i64 (.ofNat 0)), (.bool false), .nils, .nils] [(0, 1, (.const (.int .u8 (.ofNat 1)))), (1, 1, (.slot 55)), (3, 1, (.slot 56)), (4, 1, (.slot 58)), (5, 1, (.slot 60))], some 61, none⟩, []⟩,
    ⟨⟨.call (.const (.func 53 [] [])) [(.slot 51), (.slot 61)], some 62, none⟩, []⟩])
  (.seq (.region false [⟨⟨.mv (.slot 0), some 63, none⟩, []⟩,
    ⟨⟨.nilCheck (.slot 63), some 64, none⟩, []⟩,
    ⟨⟨.faddr 4 (.slot 64), some 65, none⟩, []⟩,
    ⟨⟨.load false 1 (.slot 65), some 66, none⟩, []⟩,
    ⟨⟨.mv (.slot 66), some 8, none⟩, []⟩,
    ⟨⟨.mv (.const (.int .i64 (.ofNat 0))), some 9, none⟩, []⟩])
  .ret))))))),
  [.tmp 8, .tmp 9]⟩
theorem xf27_ok : compFunc Tryz.prog Tryz.f27 = some xf27 := by kernel_rfl
/-- threshing/unit.unit -/
def xf28 : XFunc := ⟨(.seq (.region false [⟨⟨.box (.slot 1), some 3, none⟩, []⟩,
    ⟨⟨.mv (.const (.int .i64 (.ofNat 0))), some 4, none⟩, []⟩])
  (.seq (.seq (.region false [⟨⟨.mv (.slot 0), some 9, none⟩, []⟩,
    ⟨⟨.load false 1 (.slot 3), some 10, none⟩, []⟩,
    ⟨⟨.call (.const (.func 54 [] [])) [(.slot 9), (.slot 10)], some 11, none⟩, []⟩,
    ⟨⟨.len .slice (.slot 11), some 12, none⟩, []⟩,
    ⟨⟨.mv (.const (.int .i64 (.ofNat 0))), some 13, none⟩, []⟩])
  (.block 0 (.loop (.seq (.region false [⟨⟨.bin .lss 3 .num (.slot 13) (.slot 12), some 14, none⟩, []⟩])
   (.seq (.cond (.slot 14)
    .skip
    (.exit 0))
   (.seq (.block 1 (.seq (.region false [⟨⟨.iaddr 1 (.slot 11) (.slot 13), some 15, none⟩, []⟩,
     ⟨⟨.load false 1 (.slot 15), some 16, none⟩, []⟩,
     ⟨⟨.mv (.slot 16), some 6, none⟩, []⟩])
   (.seq (.region false [⟨⟨.mv (.slot 0), some 18, none⟩, []⟩,
     ⟨⟨.mv (.slot 6), some 19, none⟩, []⟩,
     ⟨⟨.call (.const (.func 55 [] [])) [(.slot 18), (.slot 19)], some 20, none⟩, []⟩,
     ⟨⟨.mv (.slot 20), some 17, none⟩, []⟩,
     ⟨⟨.extract (.slot 17) 0, some 21, none⟩, []⟩,
     ⟨⟨.extract (.slot 17) 1, some 22, none⟩, []⟩,
     ⟨⟨.alloc [(.int .i64 (.ofNat 0)), .nils, (.bool false)], some 7, none⟩, []⟩,
     ⟨⟨.store 3 (.slot 7) (.slot 21), none, none⟩, []⟩,
     ⟨⟨.mv (.slot 22), some 8, none⟩, []⟩])
   (.seq (.region false [⟨⟨.faddr 1 (.slot 7), some 23, none⟩, []⟩,
     ⟨⟨.load false 1 (.slot 23), some 24, none⟩, []⟩,
     ⟨⟨.mkfunc 56 [] [(.slot 3)], some 25, none⟩, []⟩,
     ⟨⟨.call (.const (.func 47 [] [])) [(.slot 24), (.slot 25)], some 26, none⟩, []⟩,
     ⟨⟨.un .not (.slot 26), some 27, none⟩, []⟩])
   (.cond (.slot 27)
    (.seq (.region false [⟨⟨.mv (.slot 6), some 28, none⟩, []⟩,
      ⟨⟨.mv (.slot 28), some 4, none⟩, []⟩])
    .ret)
    .skip)))))
   (.region false [⟨⟨.bin .add 3 .num (.slot 13) (.const (.int .i64 (.ofNat 1))), some 29, none⟩, []⟩,
     ⟨⟨.mv (.slot 29), some 13, none⟩, []⟩])))))))
  (.seq (.region false [⟨⟨.mv (.const (.int .i64 (.ofNat 0))), some 4, none⟩, []⟩])
  .ret))),
  [.tmp 4]⟩
theorem xf28_ok : compFunc Tryz.prog Tryz.f28 = some xf28 := by kernel_rfl
/-- (*threshing/unit.cutter).cut -/
def xf29 : XFunc := ⟨(.seq (.region false [⟨⟨.box (.slot 1), some 3, none⟩, []⟩,
    ⟨⟨.mv (.const (.bool false)), some 4, none⟩, []⟩,
    ⟨⟨.mv (.const (.int .i64 (.ofNat 0))), some 5, none⟩, []⟩])
  (.seq (.region false [⟨⟨.mv (.const .nils), some 6, none⟩, []⟩])
  (.seq (.region false [⟨⟨.mv (.const .nils), some 7, none⟩, []⟩])
  (.seq (.seq (.region false [⟨⟨.faddr 1 (.slot 3), some 12, none⟩, []⟩,
    ⟨⟨.load false 1 (.slot 12), some 13, none⟩, []⟩,
    ⟨⟨.len .slice (.slot 13), some 14, none⟩, []⟩,
    ⟨⟨.mv (.const (.int .i64 (.ofNat 0))), some 15, none⟩, []⟩])
  (.block 0 (.loop (.seq (.region false [⟨⟨.bin .lss 3 .num (.slot 15) (.slot 14), some 16, none⟩, []⟩])
   (.seq (.cond (.slot 16)
    .skip
    (.exit 0))
   (.seq (.block 1 (.seq (.region false [⟨⟨.iaddr 1 (.slot 13) (.slot 15), some 17, none⟩, []⟩,
     ⟨⟨.load false 1 (.slot 17), some 18, none⟩, []⟩,
     ⟨⟨.mv (.slot 18), some 9, none⟩, []⟩])
   (.block 2 (.seq (.region false [⟨⟨.mv (.slot 0), some 20, none⟩, []⟩,
     ⟨⟨.nilCheck (.slot 20), some 21, none⟩, []⟩,
     ⟨⟨.faddr 1 (.slot 21), some 22, none⟩, []⟩,
     ⟨⟨.load false 1 (.slot 22), some 23, none⟩, []⟩,
     ⟨⟨.mv (.slot 9), some 24, none⟩, []⟩,
     ⟨⟨.lookup .i32 (.bool false) (.slot 23) (.slot 24) false, some 25, none⟩, []⟩,
     ⟨⟨.mv (.slot 25), some 19, none⟩, []⟩])
   (.cond (.slot 19)
    (.seq (.seq (.region true [⟨⟨.mv (.slot 0), some 26, none⟩, []⟩,
      ⟨⟨.nilCheck (.slot 26), some 27, none⟩, []⟩,
      ⟨⟨.faddr 2 (.slot 27), some 28, none⟩, []⟩,
      ⟨⟨.load false 1 (.slot 28), some 29, none⟩, []⟩,
      ⟨⟨.mv (.slot 9), some 30, none⟩, []⟩,
      ⟨⟨.lookup .i32 (.int .i64 (.ofNat 0)) (.slot 29) (.slot 30) false, some 31, none⟩, []⟩,
      ⟨⟨.faddr 0 (.slot 3), some 32, none⟩, []⟩,
      ⟨⟨.load false 1 (.slot 32), some 33, none⟩, []⟩,
      ⟨⟨.bin .eql 2 .num (.slot 31) (.slot 33), some 34, none⟩, []⟩])
    (.cond (.slot 34)
     (.seq (.region false [⟨⟨.mv (.const (.bool false)), some 4, none⟩, []⟩,
       ⟨⟨.mv (.const (.int .i64 (.ofNat 0))), some 5, none⟩, []⟩])
     .ret)
     .skip))
    (.seq (.region true [⟨⟨.mv (.slot 0), some 35, none⟩, []⟩,
      ⟨⟨.nilCheck (.slot 35), some 36, none⟩, []⟩,
      ⟨⟨.faddr 0 (.slot 36), some 37, none⟩, []⟩,
      ⟨⟨.load false 1 (.slot 37), some 38, none⟩, []⟩,
      ⟨⟨.faddr 0 (.slot 3), some 39, none⟩, []⟩,
      ⟨⟨.load false 1 (.slot 39), some 40, none⟩, []⟩,
      ⟨⟨.mv (.slot 0), some 41, none⟩, []⟩,
      ⟨⟨.nilCheck (.slot 41), some 42, none⟩, []⟩,
      ⟨⟨.faddr 2 (.slot 42), some 43, none⟩, []⟩,
      ⟨⟨.load false 1 (.slot 43), some 44, none⟩, []⟩,
      ⟨⟨.mv (.slot 9), some 45, none⟩, []⟩,
      ⟨⟨.lookup .i32 (.int .i64 (.ofNat 0)) (.slot 44) (.slot 45) false, some 46, none⟩, []⟩,
      ⟨⟨.call (.const (.func 57 [] [])) [(.slot 38), (.slot 40), (.slot 46)], some 47, none⟩, []⟩,
      ⟨⟨.mv (.const (.bool true)), some 4, none⟩, []⟩,
      ⟨⟨.mv (.slot 47), some 5, none⟩, []⟩])
    .ret))
    (.seq (.region false [⟨⟨.mv (.slot 0), some 49, none⟩, []⟩,
      ⟨⟨.nilCheck (.slot 49), some 50, none⟩, []⟩,
      ⟨⟨.faddr 1 (.slot 50), some 51, none⟩, []⟩,
      ⟨⟨.load false 1 (.slot 51), some 52, none⟩, []⟩,
      ⟨⟨.mv (.slot 9), some 53, none⟩, []⟩,
      ⟨⟨.un .neg (.slot 53), some 54, none⟩, []⟩,
      ⟨⟨.lookup .i32 (.bool false) (.slot 52) (.slot 54) false, some 55, none⟩, []⟩,
      ⟨⟨.un .not (.slot 55), some 56, none⟩, []⟩,
      ⟨⟨.mv (.slot 56), some 48, none⟩, []⟩])
    (.cond (.slot 48)
     (.region false [⟨⟨.mv (.slot 6), some 57, none⟩, []⟩,
       ⟨⟨.mv (.slot 9), some 58, none⟩, []⟩,
       ⟨⟨.bslice 1 [(.int .i32 (.ofNat 0))] [(0, 1, (.slot 58))] 1, some 59, none⟩, []⟩,
       ⟨⟨.append 1 4 (.slot 57) (.slot 59), some 60, none⟩, []⟩,
       ⟨⟨.mv (.slot 60), some 6, none⟩, []⟩])
     (.seq (.region false [⟨⟨.mv (.slot 7), some 62, none⟩, []⟩,
       ⟨⟨.mv (.slot 0), some 63, none⟩, []⟩,
       ⟨⟨.nilCheck (.slot 63), some 64, none⟩, []⟩,
       ⟨⟨.faddr 2 (.slot 64), some 65, none⟩, []⟩,
       ⟨⟨.load false 1 (.slot 65), some 66, none⟩, []⟩,
       ⟨⟨.mv (.slot 9), some 67, none⟩, []⟩,
       ⟨⟨.un .neg (.slot 67), some 68, none⟩, []⟩,
       ⟨⟨.lookup .i32 (.int .i64 (.ofNat 0)) (.slot 66) (.slot 68) false, some 69, none⟩, []⟩,
       ⟨⟨.call (.const (.func 58 [] [])) [(.slot 62), (.slot 69)], some 70, none⟩, []⟩,
       ⟨⟨.un .not (.slot 70), some 71, none⟩, []⟩,
       ⟨⟨.mv (.slot 71), some 61, none⟩, []⟩])
     (.cond (.slot 61)
      (.region false [⟨⟨.mv (.slot 7), some 72, none⟩, []⟩,
        ⟨⟨.mv (.slot 0), some 73, none⟩, []⟩,
        ⟨⟨.nilCheck (.slot 73), some 74, none⟩, []⟩,
        ⟨⟨.faddr 2 (.slot 74), some 75, none⟩, []⟩,
        ⟨⟨.load false 1 (.slot 75), some 76, none⟩, []⟩,
        ⟨⟨.mv (.slot 9), some 77, none⟩, []⟩,
        ⟨⟨.un .neg (.slot 77), some 78, none⟩, []⟩,
        ⟨⟨.lookup .i32 (.int .i64 (.ofNat 0)) (.slot 76) (.slot 78) false, some 79, none⟩, []⟩,
        ⟨⟨.bslice 1 [(.int .i64 (.ofNat 0))] [(0, 1, (.slot 79))] 1, some 80, none⟩, []⟩,
        ⟨⟨.append 1 8 (.slot 72) (.slot 80), some 81, none⟩, []⟩,
        ⟨⟨.mv (.slot 81), some 7, none⟩, []⟩])
      .skip)))))))))
   (.region false [⟨⟨.bin .add 3 .num (.slot 15) (.const (.int .i64 (.ofNat 1))), some 82, none⟩, []⟩,
     ⟨⟨.mv (.slot 82), some 15, none⟩, []⟩])))))))
  (.seq (.seq (.region false [⟨⟨.mv (.slot 6), some 83, none⟩, []⟩,
    ⟨⟨.len .slice (.slot 83), some 84, none⟩, []⟩,
    ⟨⟨.faddr 1 (.slot 3), some 85, none⟩, []⟩,
    ⟨⟨.load false 1 (.slot 85), some 86, none⟩, []⟩,
    ⟨⟨.len .slice (.slot 86), some 87, none⟩, []⟩,
    ⟨⟨.bin .eql 3 .num (.slot 84) (.slot 87), some 88, none⟩, []⟩])
  (.cond (.slot 88)
   (.seq (.region false [⟨⟨.mv (.const (.bool false)), some 4, none⟩, []⟩,
     ⟨⟨.mv (.const (.int .i64 (.ofNat 0))), some 5, none⟩, []⟩])
   .ret)
   .skip))
  (.seq (.region true [⟨⟨.mv (.slot 0), some 90, none⟩, []⟩,
    ⟨⟨.nilCheck (.slot 90), some 91, none⟩, []⟩,
    ⟨⟨.faddr 0 (.slot 91), some 92, none⟩, []⟩,
    ⟨⟨.load false 1 (.slot 92), some 93, none⟩, []⟩,
    ⟨⟨.mv (.slot 6), some 94, none⟩, []⟩,
    ⟨⟨.mv (.slot 7), some 95, none⟩, []⟩,
    ⟨⟨.faddr 0 (.slot 3), some 96, none⟩, []⟩,
    ⟨⟨.load false 1 (.slot 96), some 97, none⟩, []⟩,
    ⟨⟨.faddr 2 (.slot 3), some 100, none⟩, []⟩,
    ⟨⟨.load false 1 (.slot 100), some 101, none⟩, []⟩,
    ⟨⟨.bslice 1 [(.int .i64 (.ofNat 0))] [(0, 1, (.slot 97))] 1, some 98, none⟩, [⟨.load false 1 (.slot 92), some 93, none⟩, ⟨.load false 1 (.slot 100), some 101, none⟩]⟩,
    ⟨⟨.append 1 8 (.slot 95) (.slot 98), some 99, none⟩, [⟨.load false 1 (.slot 92), some 93, none⟩, ⟨.load false 1 (.slot 100), some 101, none⟩]⟩,
    ⟨⟨.call (.const (.func 27 [] [])) [(.slot 93), (.slot 94), (.slot 99), (.slot 101)], some 102, none⟩, []⟩,
    ⟨⟨.mv (.slot 102), some 89, none⟩, []⟩,
    ⟨⟨.extract (.slot 89) 0, some 103, none⟩, []⟩,
    ⟨⟨.extract (.slot 89) 1, some 104, none⟩, []⟩,
    ⟨⟨.mv (.slot 103), some 10, none⟩, []⟩,
    ⟨⟨.mv (.slot 104), some 11, none⟩, []⟩])
  (.seq (.seq (.region false [⟨⟨.mv (.slot 11), some 105, none⟩, []⟩,
    ⟨⟨.bin .neq 23 .num (.slot 105) (.const (.int .i64 (.ofNat 0))), some 106, none⟩, []⟩])
  (.cond (.slot 106)
   (.seq (.region false [⟨⟨.mv (.slot 11), some 107, none⟩, []⟩,
     ⟨⟨.mv (.const (.bool false)), some 4, none⟩, []⟩,
     ⟨⟨.mv (.slot 107), some 5, none⟩, []⟩])
   .ret)
   .skip))
  (.seq (.region true [⟨⟨.mv (.slot 0), some 108, none⟩, []⟩,
    ⟨⟨.nilCheck (.slot 108), some 109, none⟩, []⟩,
    ⟨⟨.faddr 0 (.slot 109), some 110, none⟩, []⟩,
    ⟨⟨.load false 1 (.slot 110), some 111, none⟩, []⟩,
    ⟨⟨.faddr 0 (.slot 3), some 112, none⟩, []⟩,
    ⟨⟨.load false 1 (.slot 112), some 113, none⟩, []⟩,
    ⟨⟨.mv (.slot 10), some 114, none⟩, []⟩,
    ⟨⟨.call (.const (.func 57 [] [])) [(.slot 111), (.slot 113), (.slot 114)], some 115, none⟩, []⟩,
    ⟨⟨.mv (.const (.bool true)), some 4, none⟩, []⟩,
    ⟨⟨.mv (.slot 115), some 5, none⟩, []⟩])
  .ret)))))))),
  [.tmp 4, .tmp 5]⟩
theorem xf29_ok : compFunc Tryz.prog Tryz.f29 = some xf29 := by kernel_rfl
/-- slices.Sorted[int64] -/
def xf30 : XFunc := ⟨(.seq (.region false [⟨⟨.mv (.const .nils), some 2, none⟩, []⟩])
  (.seq (.region false [⟨⟨.mv (.slot 0), some 4, none⟩, []⟩,
    ⟨⟨.call (.const (.func 34 [] [])) [(.slot 4)], some 5, none⟩, []⟩,
    ⟨⟨.mv (.slot 5), some 3, none⟩, []⟩])
  (.seq (.region false [⟨⟨.mv (.slot 3), some 6, none⟩, []⟩,
    ⟨⟨.call (.const (.func 59 [] [])) [(.slot 6)], some 7, none⟩, []⟩])
  (.seq (.region false [⟨⟨.mv (.slot 3), some 8, none⟩, []⟩,
    ⟨⟨.mv (.slot 8), some 2, none⟩, []⟩])
  .ret)))),
  [.tmp 2]⟩
theorem xf30_ok : compFunc Tryz.prog Tryz.f30 = some xf30 := by kernel_rfl
/-- maps.Keys[map[int64]threshing/api.Entry,int64,threshing/api.Entry] -/
def xf31 : XFunc := ⟨(.seq (.region false [⟨⟨.box (.slot 0), some 1, none⟩, []⟩,
    ⟨⟨.mv (.const .nilf), some 2, none⟩, []⟩])
  (.seq (.region false [⟨⟨.mkfunc 60 [] [(.slot 1)], some 3, none⟩, []⟩,
    ⟨⟨.mv (.slot 3), some 2, none⟩, []⟩])
  .ret)),
  [.tmp 2]⟩
theorem xf31_ok : compFunc Tryz.prog Tryz.f31 = some xf31 := by kernel_rfl
/-- threshing/base.entry -/
def xf32 : XFunc := ⟨(.seq (.region false [⟨⟨.box (.slot 0), some 1, none⟩, []⟩,
    ⟨⟨.alloc [(.int .i64 (.ofNat 0)), .nils, (.bool false)], some 2, none⟩, []⟩])
  (.seq (.region false [⟨⟨.faddr 1 (.slot 1), some 3, none⟩, []⟩,
    ⟨⟨.load false 1 (.slot 3), some 4, none⟩, []⟩,
    ⟨⟨.call (.const (.func 36 [] [])) [(.slot 4)], some 5, none⟩, []⟩,
    ⟨⟨.faddr 1 (.slot 1), some 6, none⟩, []⟩,
    ⟨⟨.store 1 (.slot 6) (.slot 5), none, none⟩, []⟩])
  (.seq (.region false [⟨⟨.load true 3 (.slot 1), some 7, none⟩, []⟩,
    ⟨⟨.store 3 (.slot 2) (.slot 7), none, none⟩, []⟩])
  .ret))),
  [.cell 2 true 3]⟩
theorem xf32_ok : compFunc Tryz.prog Tryz.f32 = some xf32 := by kernel_rfl
/-- slices.Min[[]int64,int64] -/
def xf33 : XFunc := ⟨(.seq (.region false [⟨⟨.mv (.const (.int .i64 (.ofNat 0))), some 2, none⟩, []⟩])
  (.seq (.seq (.region false [⟨⟨.mv (.slot 0), some 5, none⟩, []⟩,
    ⟨⟨.len .slice (.slot 5), some 6, none⟩, []⟩,
    ⟨⟨.bin .lss 3 .num (.slot 6) (.const (.int .i64 (.ofNat 1))), some 7, none⟩, []⟩])
  (.cond (.slot 7)
   (.region false [⟨⟨.mkif 9 (.const (.str ⟨⟨[115, 108, 105, 99, 101, 115, 46, 77, 105, 110, 58, 32, 101, 109, 112, 116, 121, 32, 108, 105, 115, 116]⟩⟩)), some 8, none⟩, []⟩,
     ⟨⟨.bad, none, none⟩, []⟩])
   .skip))
  (.seq (.region false [⟨⟨.mv (.slot 0), some 9, none⟩, []⟩,
    ⟨⟨.iaddr 1 (.slot 9) (.const (.int .i64 (.ofNat 0))), some 10, none⟩, []⟩,
    ⟨⟨.load false 1 (.slot 10), some 11, none⟩, []⟩,
    ⟨⟨.mv (.slot 11), some 3, none⟩, []⟩])
  (.seq (.seq (.region false [⟨⟨.mv (.const (.int .i64 (.ofNat 1))), some 4, none⟩, []⟩])
  (.block 0 (.loop (.seq (.seq (.region false [⟨⟨.mv (.slot 4), some 12, none⟩, []⟩,
     ⟨⟨.mv (.slot 0), some 13, none⟩, []⟩,
     ⟨⟨.len .slice (.slot 13), some 14, none⟩, []⟩,
     ⟨⟨.bin .lss 3 .num (.slot 12) (.slot 14), some 15, none⟩, []⟩])
   (.cond (.slot 15)
    .skip
    (.exit 0)))
   (.seq (.block 1 (.region false [⟨⟨.mv (.slot 3), some 18, none⟩, []⟩,
     ⟨⟨.mv (.slot 0), some 19, none⟩, []⟩,
     ⟨⟨.mv (.slot 4), some 20, none⟩, []⟩,
     ⟨⟨.iaddr 1 (.slot 19) (.slot 20), some 21, none⟩, []⟩,
     ⟨⟨.load false 1 (.slot 21), some 22, none⟩, []⟩,
     ⟨⟨.minmax true (.slot 18) (.slot 22), some 23, none⟩, []⟩,
     ⟨⟨.mv (.slot 23), some 3, none⟩, []⟩]))
   (.region false [⟨⟨.mv (.slot 4), some 16, none⟩, []⟩,
     ⟨⟨.bin .add 3 .num (.slot 16) (.const (.int .i64 (.ofNat 1))), some 17, none⟩, []⟩,
     ⟨⟨.mv (.slot 17), some 4, none⟩, []⟩]))))))
  (.seq (.region false [⟨⟨.mv (.slot 3), some 24, none⟩, []⟩,
    ⟨⟨.mv (.slot 24), some 2, none⟩, []⟩])
  .ret))))),
  [.tmp 2]⟩
theorem xf33_ok : compFunc Tryz.prog Tryz.f33 = some xf33 := by kernel_rfl
/-- slices.Collect[int64] -/
def xf34 : XFunc := ⟨(.seq (.region false [⟨⟨.mv (.const .nils), some 2, none⟩, []⟩])
  (.seq (.region false [⟨⟨.mv (.slot 0), some 3, none⟩, []⟩,
    ⟨⟨.call (.const (.func 61 [] [])) [(.const .nils), (.slot 3)], some 4, none⟩, []⟩,
    ⟨⟨.mv (.slot 4), some 2, none⟩, []⟩])
  .ret)),
  [.tmp 2]⟩
theorem xf34_ok : compFunc Tryz.prog Tryz.f34 = some xf34 := by kernel_rfl
/-- maps.Keys[map[int64]bool,int64,bool] -/
def xf35 : XFunc := ⟨(.seq (.region false [⟨⟨.box (.slot 0), some 1, none⟩, []⟩,
    ⟨⟨.mv (.const .nilf), some 2, none⟩, []⟩])
  (.seq (.region false [⟨⟨.mkfunc 62 [] [(.slot 1)], some 3, none⟩, []⟩,
    ⟨⟨.mv (.slot 3), some 2, none⟩, []⟩])
  .ret)),
  [.tmp 2]⟩
theorem xf35_ok : compFunc Tryz.prog Tryz.f35 = some xf35 := by kernel_rfl
/-- slices.Clone[threshing/api.Clause,threshing/api.Lit] -/
def xf36 : XFunc := ⟨(.seq (.region false [⟨⟨.mv (.const .nils), some 2, none⟩, []⟩])
  (.seq (.seq (.region false [⟨⟨.mv (.slot 0), some 3, none⟩, []⟩,
    ⟨⟨.bin .eql 31 .slice (.slot 3) (.const .nils), some 4, none⟩, []⟩])
  (.cond (.slot 4)
   (.seq (.region false [⟨⟨.mv (.const .nils), some 2, none⟩, []⟩])
   .ret)
   .skip))
  (.seq (.region false [⟨⟨.bslice 1 [] [] 0, some 5, none⟩, []⟩,
    ⟨⟨.mv (.slot 0), some 6, none⟩, []⟩,
    ⟨⟨.append 1 4 (.slot 5) (.slot 6), some 7, none⟩, []⟩,
    ⟨⟨.mv (.slot 7), some 2, none⟩, []⟩])
  .ret))),
  [.tmp 2]⟩
theorem xf36_ok : compFunc Tryz.prog Tryz.f36 = some xf36 := by kernel_rfl
/-- (threshing/cnf.lit).variable -/
def xf37 : XFunc := ⟨(.seq (.region false [⟨⟨.mv (.const (.int .i64 (.ofNat 0))), some 2, none⟩, []⟩])
  (.seq (.seq (.region false [⟨⟨.mv (.slot 0), some 3, none⟩, []⟩,
    ⟨⟨.bin .lss 99 .num (.slot 3) (.const (.int .i32 (.ofNat 0))), some 4, none⟩, []⟩])
  (.cond (.slot 4)
   (.seq (.region false [⟨⟨.mv (.slot 0), some 5, none⟩, []⟩,
     ⟨⟨.conv .i64 (.slot 5), some 6, none⟩, []⟩,
     ⟨⟨.un .neg (.slot 6), some 7, none⟩, []⟩,
     ⟨⟨.mv (.slot 7), some 2, none⟩, []⟩])
   .ret)
   .skip))
  (.seq (.region false [⟨⟨.mv (.slot 0), some 8, none⟩, []⟩,
    ⟨⟨.conv .i64 (.slot 8), some 9, none⟩, []⟩,
    ⟨⟨.mv (.slot 9), some 2, none⟩, []⟩])
  .ret))),
  [.tmp 2]⟩
theorem xf37_ok : compFunc Tryz.prog Tryz.f37 = some xf37 := by kernel_rfl
/-- slices.SortFunc[threshing/api.Clause,threshing/api.Lit] -/
def xf38 : XFunc := ⟨(.seq (.region false [⟨⟨.mv (.slot 0), some 5, none⟩, []⟩,
    ⟨⟨.len .slice (.slot 5), some 6, none⟩, []⟩,
    ⟨⟨.mv (.slot 6), some 4, none⟩, []⟩])
  (.region false [⟨⟨.mv (.slot 0), some 7, none⟩, []⟩,
    ⟨⟨.mv (.slot 4), some 8, none⟩, []⟩,
    ⟨⟨.mv (.slot 4), some 9, none⟩, []⟩,
    ⟨⟨.conv .u64 (.slot 9), some 10, none⟩, []⟩,
    ⟨⟨.call (.const (.func 64 [] [])) [(.slot 10)], some 11, none⟩, []⟩,
    ⟨⟨.mv (.slot 1), some 12, none⟩, []⟩,
    ⟨⟨.call (.const (.func 63 [] [])) [(.slot 7), (.const (.int .i64 (.ofNat 0))), (.slot 8), (.slot 11), (.slot 12)], some 13, none⟩, []⟩])),
  []⟩
theorem xf38_ok : compFunc Tryz.prog Tryz.f38 = some xf38 := by kernel_rfl
/-- threshing/cnf.order -/
def xf39 : XFunc := ⟨(.seq (.region false [⟨⟨.mv (.const (.int .i64 (.ofNat 0))), some 4, none⟩, []⟩])
  (.seq (.region false [⟨⟨.mv (.slot 0), some 5, none⟩, []⟩,
    ⟨⟨.call (.const (.func 19 [] [])) [(.slot 5)], some 6, none⟩, []⟩,
    ⟨⟨.mv (.slot 1), some 7, none⟩, []⟩,
    ⟨⟨.call (.const (.func 19 [] [])) [(.slot 7)], some 8, none⟩, []⟩,
    ⟨⟨.call (.const (.func 66 [] [])) [(.slot 6), (.slot 8)], some 9, none⟩, []⟩,
    ⟨⟨.mv (.slot 0), some 10, none⟩, []⟩,
    ⟨⟨.mv (.slot 1), some 11, none⟩, []⟩,
    ⟨⟨.call (.const (.func 67 [] [])) [(.slot 10), (.slot 11)], some 12, none⟩, []⟩,
    ⟨⟨.bslice 1 [(.int .i64 (.ofNat 0)), (.int .i64 (.ofNat 0))] [(0, 1, (.slot 9)), (1, 1, (.slot 12))] 2, some 13, none⟩, []⟩,
    ⟨⟨.call (.const (.func 65 [] [])) [(.slot 13)], some 14, none⟩, []⟩,
    ⟨⟨.mv (.slot 14), some 4, none⟩, []⟩])
  .ret)),
  [.tmp 4]⟩
theorem xf39_ok : compFunc Tryz.prog Tryz.f39 = some xf39 := by kernel_rfl
/-- slices.Compact[threshing/api.Clause,threshing/api.Lit] -/
def xf40 : XFunc := ⟨(.seq (.region false [⟨⟨.mv (.const .nils), some 2, none⟩, []⟩])
  (.seq (.seq (.region false [⟨⟨.mv (.slot 0), some 6, none⟩, []⟩,
    ⟨⟨.len .slice (.slot 6), some 7, none⟩, []⟩,
    ⟨⟨.bin .lss 3 .num (.slot 7) (.const (.int .i64 (.ofNat 2))), some 8, none⟩, []⟩])
  (.cond (.slot 8)
   (.seq (.region false [⟨⟨.mv (.slot 0), some 9, none⟩, []⟩,
     ⟨⟨.mv (.slot 9), some 2, none⟩, []⟩])
   .ret)
   .skip))
  (.seq (.seq (.region false [⟨⟨.mv (.const (.int .i64 (.ofNat 1))), some 3, none⟩, []⟩])
  (.block 0 (.loop (.seq (.seq (.region false [⟨⟨.mv (.slot 3), some 10, none⟩, []⟩,
     ⟨⟨.mv (.slot 0), some 11, none⟩, []⟩,
     ⟨⟨.len .slice (.slot 11), some 12, none⟩, []⟩,
     ⟨⟨.bin .lss 3 .num (.slot 10) (.slot 12), some 13, none⟩, []⟩])
   (.cond (.slot 13)
    .skip
    (.exit 0)))
   (.seq (.block 1 (.seq (.region true [⟨⟨.mv (.slot 0), some 16, none⟩, []⟩,
     ⟨⟨.mv (.slot 3), some 17, none⟩, []⟩,
     ⟨⟨.iaddr 1 (.slot 16) (.slot 17), some 18, none⟩, []⟩,
     ⟨⟨.load false 1 (.slot 18), some 19, none⟩, []⟩,
     ⟨⟨.mv (.slot 0), some 20, none⟩, []⟩,
     ⟨⟨.mv (.slot 3), some 21, none⟩, []⟩,
     ⟨⟨.bin .sub 3 .num (.slot 21) (.const (.int .i64 (.ofNat 1))), some 22, none⟩, []⟩,
     ⟨⟨.iaddr 1 (.slot 20) (.slot 22), some 23, none⟩, []⟩,
     ⟨⟨.load false 1 (.slot 23), some 24, none⟩, []⟩,
     ⟨⟨.bin .eql 37 .num (.slot 19) (.slot 24), some 25, none⟩, []⟩])
   (.cond (.slot 25)
    (.seq (.region false [⟨⟨.mv (.slot 0), some 26, none⟩, []⟩,
      ⟨⟨.mv (.slot 3), some 27, none⟩, []⟩,
      ⟨⟨.slc 1 (.slot 26) (some (.slot 27)) none none, some 28, none⟩, []⟩,
      ⟨⟨.mv (.slot 28), some 4, none⟩, []⟩])
    (.seq (.seq (.region false [⟨⟨.mv (.const (.int .i64 (.ofNat 1))), some 5, none⟩, []⟩])
    (.block 2 (.loop (.seq (.seq (.region false [⟨⟨.mv (.slot 5), some 29, none⟩, []⟩,
       ⟨⟨.mv (.slot 4), some 30, none⟩, []⟩,
       ⟨⟨.len .slice (.slot 30), some 31, none⟩, []⟩,
       ⟨⟨.bin .lss 3 .num (.slot 29) (.slot 31), some 32, none⟩, []⟩])
     (.cond (.slot 32)
      .skip
      (.exit 2)))
     (.seq (.block 3 (.seq (.region true [⟨⟨.mv (.slot 4), some 35, none⟩, []⟩,
       ⟨⟨.mv (.slot 5), some 36, none⟩, []⟩,
       ⟨⟨.iaddr 1 (.slot 35) (.slot 36), some 37, none⟩, []⟩,
       ⟨⟨.load false 1 (.slot 37), some 38, none⟩, []⟩,
       ⟨⟨.mv (.slot 4), some 39, none⟩, []⟩,
       ⟨⟨.mv (.slot 5), some 40, none⟩, []⟩,
       ⟨⟨.bin .sub 3 .num (.slot 40) (.const (.int .i64 (.ofNat 1))), some 41, none⟩, []⟩,
       ⟨⟨.iaddr 1 (.slot 39) (.slot 41), some 42, none⟩, []⟩,
       ⟨⟨.load false 1 (.slot 42), some 43, none⟩, []⟩,
       ⟨⟨.bin .neq 37 .num (.slot 38) (.slot 43), some 44, none⟩, []⟩])
     (.cond (.slot 44)
      (.seq (.region false [⟨⟨.mv (.slot 0), some 45, none⟩, []⟩,
        ⟨⟨.mv (.slot 3), some 46, none⟩, []⟩,
        ⟨⟨.mv (.slot 4), some 47, none⟩, []⟩,
        ⟨⟨.mv (.slot 5), some 48, none⟩, []⟩,
        ⟨⟨.iaddr 1 (.slot 47) (.slot 48), some 49, none⟩, []⟩,
        ⟨⟨.load false 1 (.slot 49), some 50, none⟩, []⟩,
        ⟨⟨.iaddr 1 (.slot 45) (.slot 46), some 51, none⟩, []⟩,
        ⟨⟨.store 1 (.slot 51) (.slot 50), none, none⟩, []⟩])
      (.region false [⟨⟨.mv (.slot 3), some 52, none⟩, []⟩,
        ⟨⟨.bin .add 3 .num (.slot 52) (.const (.int .i64 (.ofNat 1))), some 53, none⟩, []⟩,
        ⟨⟨.mv (.slot 53), some 3, none⟩, []⟩]))
      .skip)))
     (.region false [⟨⟨.mv (.slot 5), some 33, none⟩, []⟩,
       ⟨⟨.bin .add 3 .num (.slot 33) (.const (.int .i64 (.ofNat 1))), some 34, none⟩, []⟩,
       ⟨⟨.mv (.slot 34), some 5, none⟩, []⟩]))))))
    (.seq (.region false [⟨⟨.mv (.slot 0), some 54, none⟩, []⟩,
      ⟨⟨.mv (.slot 3), some 55, none⟩, []⟩,
      ⟨⟨.slc 1 (.slot 54) (some (.slot 55)) none none, some 56, none⟩, []⟩,
      ⟨⟨.clear [(.int .i32 (.ofNat 0))] (.slot 56), none, none⟩, []⟩])
    (.seq (.region false [⟨⟨.mv (.slot 0), some 57, none⟩, []⟩,
      ⟨⟨.mv (.slot 3), some 58, none⟩, []⟩,
      ⟨⟨.slc 1 (.slot 57) none (some (.slot 58)) none, some 59, none⟩, []⟩,
      ⟨⟨.mv (.slot 59), some 2, none⟩, []⟩])
    .ret))))
    .skip)))
   (.region false [⟨⟨.mv (.slot 3), some 14, none⟩, []⟩,
     ⟨⟨.bin .add 3 .num (.slot 14) (.const (.int .i64 (.ofNat 1))), some 15, none⟩, []⟩,
     ⟨⟨.mv (.slot 15), some 3, none⟩, []⟩]))))))
  (.seq (.region false [⟨⟨.mv (.slot 0), some 60, none⟩, []⟩,
    ⟨⟨.mv (.slot 60), some 2, none⟩, []⟩])
  .ret)))),
  [.tmp 2]⟩
theorem xf40_ok : compFunc Tryz.prog Tryz.f40 = some xf40 := by kernel_rfl
/-- slices.Clip[threshing/api.Clause,threshing/api.Lit] -/
def xf41 : XFunc := ⟨(.seq (.region false [⟨⟨.mv (.const .nils), some 2, none⟩, []⟩])
  (.seq (.region false [⟨⟨.mv (.slot 0), some 3, none⟩, []⟩,
    ⟨⟨.mv (.slot 0), some 4, none⟩, []⟩,
    ⟨⟨.len .slice (.slot 4), some 5, none⟩, []⟩,
    ⟨⟨.mv (.slot 0), some 6, none⟩, []⟩,
    ⟨⟨.len .slice (.slot 6), some 7, none⟩, []⟩,
    ⟨⟨.slc 1 (.slot 3) none (some (.slot 5)) (some (.slot 7)), some 8, none⟩, []⟩,
    ⟨⟨.mv (.slot 8), some 2, none⟩, []⟩])
  .ret)),
  [.tmp 2]⟩
theorem xf41_ok : compFunc Tryz.prog Tryz.f41 = some xf41 := by kernel_rfl
/-- container/heap.down -/
def xf42 : XFunc := ⟨(.seq (.region false [⟨⟨.mv (.const (.bool false)), some 6, none⟩, []⟩])
  (.seq (.region false [⟨⟨.mv (.slot 1), some 11, none⟩, []⟩,
    ⟨⟨.mv (.slot 11), some 7, none⟩, []⟩])
  (.seq (.block 0 (.loop (.block 1 (.seq (.region false [⟨⟨.mv (.slot 7), some 12, none⟩, []⟩,
     ⟨⟨.bin .mul 3 .num (.const (.int .i64 (.ofNat 2))) (.slot 12), some 13, none⟩, []⟩,
     ⟨⟨.bin .add 3 .num (.slot 13) (.const (.int .i64 (.ofNat 1))), some 14, none⟩, []⟩,
     ⟨⟨.mv (.slot 14), some 8, none⟩, []⟩])
   (.seq (.seq (.region false [⟨⟨.mv (.slot 8), some 15, none⟩, []⟩,
     ⟨⟨.mv (.slot 2), some 16, none⟩, []⟩,
     ⟨⟨.bin .geq 3 .num (.slot 15) (.slot 16), some 17, none⟩, []⟩,
     ⟨⟨.mv (.slot 17), some 18, none⟩, []⟩,
     ⟨⟨.mv (.slot 8), some 19, some (18, false)⟩, []⟩,
     ⟨⟨.bin .lss 3 .num (.slot 19) (.const (.int .i64 (.ofNat 0))), some 20, some (18, false)⟩, []⟩,
     ⟨⟨.pick (.slot 18) (.const (.bool true)) (.slot 20), some 21, none⟩, []⟩])
   (.cond (.slot 21)
    (.exit 0)
    .skip))
   (.seq (.region false [⟨⟨.mv (.slot 8), some 22, none⟩, []⟩,
     ⟨⟨.mv (.slot 22), some 9, none⟩, []⟩])
   (.seq (.seq (.region false [⟨⟨.mv (.slot 8), some 23, none⟩, []⟩,
     ⟨⟨.bin .add 3 .num (.slot 23) (.const (.int .i64 (.ofNat 1))), some 24, none⟩, []⟩,
     ⟨⟨.mv (.slot 24), some 10, none⟩, []⟩])
   (.seq (.region false [⟨⟨.mv (.slot 10), some 25, none⟩, []⟩,
     ⟨⟨.mv (.slot 2), some 26, none⟩, []⟩,
     ⟨⟨.bin .lss 3 .num (.slot 25) (.slot 26), some 27, none⟩, []⟩,
     ⟨⟨.mv (.slot 27), some 28, none⟩, []⟩,
     ⟨⟨.mv (.slot 0), some 29, some (28, true)⟩, []⟩,
     ⟨⟨.mv (.slot 10), some 30, some (28, true)⟩, []⟩,
     ⟨⟨.mv (.slot 8), some 31, some (28, true)⟩, []⟩,
     ⟨⟨.invoke (.slot 29) [(72, 129, none), (76, 129, some (false, 1))] [(.slot 30), (.slot 31)], some 32, some (28, true)⟩, []⟩,
     ⟨⟨.pick (.slot 28) (.slot 32) (.const (.bool false)), some 33, none⟩, []⟩])
   (.cond (.slot 33)
    (.region false [⟨⟨.mv (.slot 10), some 34, none⟩, []⟩,
      ⟨⟨.mv (.slot 34), some 9, none⟩, []⟩])
    .skip)))
   (.seq (.seq (.region false [⟨⟨.mv (.slot 0), some 35, none⟩, []⟩,
     ⟨⟨.mv (.slot 9), some 36, none⟩, []⟩,
     ⟨⟨.mv (.slot 7), some 37, none⟩, []⟩,
     ⟨⟨.invoke (.slot 35) [(72, 129, none), (76, 129, some (false, 1))] [(.slot 36), (.slot 37)], some 38, none⟩, []⟩,
     ⟨⟨.un .not (.slot 38), some 39, none⟩, []⟩])
   (.cond (.slot 39)
    (.exit 0)
    .skip))
   (.seq (.region false [⟨⟨.mv (.slot 0), some 40, none⟩, []⟩,
     ⟨⟨.mv (.slot 7), some 41, none⟩, []⟩,
     ⟨⟨.mv (.slot 9), some 42, none⟩, []⟩,
     ⟨⟨.invoke (.slot 40) [(72, 130, none), (76, 130, some (false, 1))] [(.slot 41), (.slot 42)], some 43, none⟩, []⟩])
   (.region false [⟨⟨.mv (.slot 9), some 44, none⟩, []⟩,
     ⟨⟨.mv (.slot 44), some 7, none⟩, []⟩]))))))))))
  (.seq (.region false [⟨⟨.mv (.slot 7), some 45, none⟩, []⟩,
    ⟨⟨.mv (.slot 1), some 46, none⟩, []⟩,
    ⟨⟨.bin .gtr 3 .num (.slot 45) (.slot 46), some 47, none⟩, []⟩,
    ⟨⟨.mv (.slot 47), some 6, none⟩, []⟩])
  .ret)))),
  [.tmp 6]⟩
theorem xf42_ok : compFunc Tryz.prog Tryz.f42 = some xf42 := by kernel_rfl
end Go.Proofs.YtndkeibkcadpkaaGreat

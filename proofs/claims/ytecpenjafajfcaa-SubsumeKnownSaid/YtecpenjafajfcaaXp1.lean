/- The functions of the program in X's code, printed by a program of ours; each is what the program's own is turned to. -/
import Derived.Test.YtecpenjafajfcaaProg
import Derived.Test.YtecpenjafajfcaaXc
import Derived.KernelRfl
namespace Go.Proofs.Ytecpenjafajfcaa
open Go.Xr
/-- slices.Clone[threshing/api.Clause,threshing/api.Lit] -/
def xf21 : XFunc := ⟨(.seq (.region false [⟨⟨.mv (.const .nils), some 2, none⟩, []⟩])
  (.seq (.seq (.region false [⟨⟨.mv (.slot 0), some 3, none⟩, []⟩,
    ⟨⟨.bin .eql 26 .slice (.slot 3) (.const .nils), some 4, none⟩, []⟩])
  (.cond (.slot 4)
   (.seq (.region false [⟨⟨.mv (.const .nils), some 2, none⟩, []⟩])
   .ret)
   .skip))
  (.seq (.region false [⟨⟨.bslice 1 [] [] 0, some 5, none⟩, []⟩,
    ⟨⟨.mv (.slot 0), some 6, none⟩, []⟩,
    ⟨⟨.append 1 4 (.slot 5) (.slot 6), some 7, none⟩, []⟩,
    ⟨⟨.mv (.slot 7), some 2, none⟩, []⟩])
  .ret))),
  [.tmp 2]⟩
theorem xf21_ok : compFunc Try.prog Try.f21 = some xf21 := by kernel_rfl
/-- slices.Clone[[]int64,int64] -/
def xf22 : XFunc := ⟨(.seq (.region false [⟨⟨.mv (.const .nils), some 2, none⟩, []⟩])
  (.seq (.seq (.region false [⟨⟨.mv (.slot 0), some 3, none⟩, []⟩,
    ⟨⟨.bin .eql 37 .slice (.slot 3) (.const .nils), some 4, none⟩, []⟩])
  (.cond (.slot 4)
   (.seq (.region false [⟨⟨.mv (.const .nils), some 2, none⟩, []⟩])
   .ret)
   .skip))
  (.seq (.region false [⟨⟨.bslice 1 [] [] 0, some 5, none⟩, []⟩,
    ⟨⟨.mv (.slot 0), some 6, none⟩, []⟩,
    ⟨⟨.append 1 8 (.slot 5) (.slot 6), some 7, none⟩, []⟩,
    ⟨⟨.mv (.slot 7), some 2, none⟩, []⟩])
  .ret))),
  [.tmp 2]⟩
theorem xf22_ok : compFunc Try.prog Try.f22 = some xf22 := by kernel_rfl
/-- (*threshing/base.Base).note -/
def xf23 : XFunc := ⟨(.seq (.region false [⟨⟨.box (.slot 1), some 3, none⟩, []⟩,
    ⟨⟨.mv (.const (.int .i64 (.ofNat 0))), some 4, none⟩, []⟩])
  (.seq (.region true [⟨⟨.mv (.slot 0), some 5, none⟩, []⟩,
    ⟨⟨.mv (.slot 0), some 6, none⟩, []⟩,
    ⟨⟨.nilCheck (.slot 6), some 7, none⟩, []⟩,
    ⟨⟨.faddr 7 (.slot 7), some 8, none⟩, []⟩,
    ⟨⟨.load false 1 (.slot 8), some 9, none⟩, []⟩,
    ⟨⟨.load true 6 (.slot 3), some 10, none⟩, []⟩,
    ⟨⟨.bslice 6 [(.int .u8 (.ofNat 0)), (.int .i64 (.ofNat 0)), (.int .i64 (.ofNat 0)), (.bool false), .nils, .nils] [(0, 6, (.slot 10))] 1, some 11, none⟩, [⟨.load false 1 (.slot 8), some 9, none⟩]⟩,
    ⟨⟨.append 6 80 (.slot 9) (.slot 11), some 12, none⟩, []⟩,
    ⟨⟨.nilCheck (.slot 5), some 13, none⟩, []⟩,
    ⟨⟨.faddr 7 (.slot 13), some 14, none⟩, []⟩,
    ⟨⟨.store 1 (.slot 14) (.slot 12), none, none⟩, []⟩])
  (.seq (.region false [⟨⟨.mv (.const (.int .i64 (.ofNat 0))), some 4, none⟩, []⟩])
  .ret))),
  [.tmp 4]⟩
theorem xf23_ok : compFunc Try.prog Try.f23 = some xf23 := by kernel_rfl
/-- threshing/cnf.Right -/
def xf24 : XFunc := ⟨(.seq (.region false [⟨⟨.box (.slot 0), some 1, none⟩, []⟩,
    ⟨⟨.mv (.const (.int .i64 (.ofNat 0))), some 2, none⟩, []⟩])
  (.seq (.block 0 (.seq (.seq (.region false [⟨⟨.faddr 0 (.slot 1), some 9, none⟩, []⟩,
    ⟨⟨.load false 1 (.slot 9), some 10, none⟩, []⟩,
    ⟨⟨.bin .lss 3 .num (.slot 10) (.const (.int .i64 (.ofNat 0))), some 11, none⟩, []⟩,
    ⟨⟨.mv (.slot 11), some 8, none⟩, []⟩])
  (.cond (.slot 8)
   .skip
   (.region false [⟨⟨.faddr 0 (.slot 1), some 12, none⟩, []⟩,
     ⟨⟨.load false 1 (.slot 12), some 13, none⟩, []⟩,
     ⟨⟨.bin .gtr 3 .num (.slot 13) (.const (.int .i64 (.ofNat 1048576))), some 14, none⟩, []⟩,
     ⟨⟨.mv (.slot 14), some 8, none⟩, []⟩])))
  (.cond (.slot 8)
   (.seq (.region false [⟨⟨.mv (.const (.int .i64 (.ofNat 2))), some 2, none⟩, []⟩])
   .ret)
   (.seq (.region false [⟨⟨.faddr 1 (.slot 1), some 16, none⟩, []⟩,
     ⟨⟨.load false 1 (.slot 16), some 17, none⟩, []⟩,
     ⟨⟨.len .slice (.slot 17), some 18, none⟩, []⟩,
     ⟨⟨.bin .gtr 3 .num (.slot 18) (.const (.int .i64 (.ofNat 1048576))), some 19, none⟩, []⟩,
     ⟨⟨.mv (.slot 19), some 15, none⟩, []⟩])
   (.cond (.slot 15)
    (.seq (.region false [⟨⟨.mv (.const (.int .i64 (.ofNat 3))), some 2, none⟩, []⟩])
    .ret)
    .skip)))))
  (.seq (.region false [⟨⟨.mv (.const (.int .i64 (.ofNat 16777216))), some 3, none⟩, []⟩])
  (.seq (.seq (.region false [⟨⟨.faddr 1 (.slot 1), some 20, none⟩, []⟩,
    ⟨⟨.load false 1 (.slot 20), some 21, none⟩, []⟩,
    ⟨⟨.len .slice (.slot 21), some 22, none⟩, []⟩,
    ⟨⟨.mv (.const (.int .i64 (.ofNat 0))), some 23, none⟩, []⟩])
  (.block 1 (.loop (.seq (.region false [⟨⟨.bin .lss 3 .num (.slot 23) (.slot 22), some 24, none⟩, []⟩])
   (.seq (.cond (.slot 24)
    .skip
    (.exit 1))
   (.seq (.block 2 (.seq (.region false [⟨⟨.iaddr 1 (.slot 21) (.slot 23), some 25, none⟩, []⟩,
     ⟨⟨.load false 1 (.slot 25), some 26, none⟩, []⟩,
     ⟨⟨.mv (.slot 26), some 5, none⟩, []⟩])
   (.seq (.region false [⟨⟨.mv (.slot 5), some 27, none⟩, []⟩,
     ⟨⟨.len .slice (.slot 27), some 28, none⟩, []⟩,
     ⟨⟨.mv (.const (.int .i64 (.ofNat 0))), some 29, none⟩, []⟩])
   (.block 3 (.loop (.seq (.region false [⟨⟨.bin .lss 3 .num (.slot 29) (.slot 28), some 30, none⟩, []⟩])
    (.seq (.cond (.slot 30)
     .skip
     (.exit 3))
    (.seq (.block 4 (.seq (.region false [⟨⟨.iaddr 1 (.slot 27) (.slot 29), some 31, none⟩, []⟩,
      ⟨⟨.load false 1 (.slot 31), some 32, none⟩, []⟩,
      ⟨⟨.mv (.slot 32), some 7, none⟩, []⟩])
    (.seq (.seq (.region false [⟨⟨.mv (.slot 3), some 33, none⟩, []⟩,
      ⟨⟨.bin .eql 3 .num (.slot 33) (.const (.int .i64 (.ofNat 0))), some 34, none⟩, []⟩])
    (.cond (.slot 34)
     (.seq (.region false [⟨⟨.mv (.const (.int .i64 (.ofNat 3))), some 2, none⟩, []⟩])
     .ret)
     .skip))
    (.seq (.region false [⟨⟨.mv (.slot 3), some 35, none⟩, []⟩,
      ⟨⟨.bin .sub 3 .num (.slot 35) (.const (.int .i64 (.ofNat 1))), some 36, none⟩, []⟩,
      ⟨⟨.mv (.slot 36), some 3, none⟩, []⟩])
    (.seq (.region true [⟨⟨.mv (.slot 7), some 37, none⟩, []⟩,
      ⟨⟨.bin .eql 24 .num (.slot 37) (.const (.int .i32 (.ofNat 0))), some 38, none⟩, []⟩,
      ⟨⟨.mv (.slot 38), some 39, none⟩, []⟩,
      ⟨⟨.mv (.slot 7), some 40, some (39, false)⟩, []⟩,
      ⟨⟨.faddr 0 (.slot 1), some 42, some (39, false)⟩, []⟩,
      ⟨⟨.load false 1 (.slot 42), some 43, some (39, false)⟩, []⟩,
      ⟨⟨.call (.const (.func 37 [] [])) [(.slot 40)], some 41, some (39, false)⟩, [⟨.load false 1 (.slot 42), some 43, some (39, false)⟩]⟩,
      ⟨⟨.bin .gtr 3 .num (.slot 41) (.slot 43), some 44, some (39, false)⟩, []⟩,
      ⟨⟨.pick (.slot 39) (.const (.bool true)) (.slot 44), some 45, none⟩, []⟩])
    (.cond (.slot 45)
     (.seq (.region false [⟨⟨.mv (.const (.int .i64 (.ofNat 4))), some 2, none⟩, []⟩])
     .ret)
     .skip))))))
    (.region false [⟨⟨.bin .add 3 .num (.slot 29) (.const (.int .i64 (.ofNat 1))), some 46, none⟩, []⟩,
      ⟨⟨.mv (.slot 46), some 29, none⟩, []⟩])))))))))
   (.region false [⟨⟨.bin .add 3 .num (.slot 23) (.const (.int .i64 (.ofNat 1))), some 47, none⟩, []⟩,
     ⟨⟨.mv (.slot 47), some 23, none⟩, []⟩])))))))
  (.seq (.region false [⟨⟨.mv (.const (.int .i64 (.ofNat 0))), some 2, none⟩, []⟩])
  .ret))))),
  [.tmp 2]⟩
theorem xf24_ok : compFunc Try.prog Try.f24 = some xf24 := by kernel_rfl
/-- threshing/subsume.near -/
def xf25 : XFunc := ⟨(.seq (.region false [⟨⟨.mv (.const .nils), some 4, none⟩, []⟩])
  (.seq (.region false [⟨⟨.mv (.const .nils), some 5, none⟩, []⟩])
  (.seq (.region false [⟨⟨.mv (.slot 1), some 13, none⟩, []⟩,
    ⟨⟨.call (.const (.func 39 [] [])) [(.slot 13)], some 14, none⟩, []⟩,
    ⟨⟨.mv (.slot 14), some 12, none⟩, []⟩,
    ⟨⟨.extract (.slot 12) 0, some 15, none⟩, []⟩,
    ⟨⟨.extract (.slot 12) 1, some 16, none⟩, []⟩,
    ⟨⟨.mv (.slot 15), some 6, none⟩, []⟩,
    ⟨⟨.mv (.slot 16), some 7, none⟩, []⟩])
  (.seq (.seq (.region false [⟨⟨.mv (.slot 6), some 17, none⟩, []⟩,
    ⟨⟨.len .slice (.slot 17), some 18, none⟩, []⟩,
    ⟨⟨.mv (.const (.int .i64 (.ofNat 0))), some 19, none⟩, []⟩])
  (.block 0 (.loop (.seq (.region false [⟨⟨.bin .lss 3 .num (.slot 19) (.slot 18), some 20, none⟩, []⟩])
   (.seq (.cond (.slot 20)
    .skip
    (.exit 0))
   (.seq (.block 1 (.seq (.region false [⟨⟨.iaddr 1 (.slot 17) (.slot 19), some 21, none⟩, []⟩,
     ⟨⟨.load false 1 (.slot 21), some 22, none⟩, []⟩,
     ⟨⟨.mv (.slot 22), some 9, none⟩, []⟩])
   (.region false [⟨⟨.mv (.slot 5), some 23, none⟩, []⟩,
     ⟨⟨.mv (.slot 0), some 24, none⟩, []⟩,
     ⟨⟨.mv (.slot 9), some 25, none⟩, []⟩,
     ⟨⟨.call (.const (.func 41 [] [])) [(.slot 24), (.slot 25)], some 26, none⟩, []⟩,
     ⟨⟨.mv (.slot 0), some 27, none⟩, []⟩,
     ⟨⟨.mv (.slot 9), some 28, none⟩, []⟩,
     ⟨⟨.un .neg (.slot 28), some 29, none⟩, []⟩,
     ⟨⟨.call (.const (.func 41 [] [])) [(.slot 27), (.slot 29)], some 30, none⟩, []⟩,
     ⟨⟨.bslice 1 [.nils, .nils, .nils] [(0, 1, (.slot 23)), (1, 1, (.slot 26)), (2, 1, (.slot 30))] 3, some 31, none⟩, []⟩,
     ⟨⟨.call (.const (.func 40 [] [])) [(.slot 31)], some 32, none⟩, []⟩,
     ⟨⟨.mv (.slot 32), some 5, none⟩, []⟩])))
   (.region false [⟨⟨.bin .add 3 .num (.slot 19) (.const (.int .i64 (.ofNat 1))), some 33, none⟩, []⟩,
     ⟨⟨.mv (.slot 33), some 19, none⟩, []⟩])))))))
  (.seq (.seq (.region false [⟨⟨.mv (.slot 0), some 35, none⟩, []⟩,
    ⟨⟨.call (.const (.func 42 [] [])) [(.slot 35)], some 36, none⟩, []⟩,
    ⟨⟨.mv (.slot 36), some 34, none⟩, []⟩,
    ⟨⟨.extract (.slot 34) 0, some 37, none⟩, []⟩,
    ⟨⟨.extract (.slot 34) 1, some 38, none⟩, []⟩,
    ⟨⟨.mv (.slot 37), some 10, none⟩, []⟩,
    ⟨⟨.mv (.slot 38), some 11, none⟩, []⟩])
  (.seq (.region false [⟨⟨.mv (.slot 11), some 39, none⟩, []⟩])
  (.cond (.slot 39)
   (.region false [⟨⟨.mv (.slot 5), some 40, none⟩, []⟩,
     ⟨⟨.mv (.slot 10), some 41, none⟩, []⟩,
     ⟨⟨.bslice 1 [(.int .i64 (.ofNat 0))] [(0, 1, (.slot 41))] 1, some 42, none⟩, []⟩,
     ⟨⟨.append 1 8 (.slot 40) (.slot 42), some 43, none⟩, []⟩,
     ⟨⟨.mv (.slot 43), some 5, none⟩, []⟩])
   .skip)))
  (.seq (.region false [⟨⟨.mv (.slot 5), some 44, none⟩, []⟩,
    ⟨⟨.call (.const (.func 33 [] [])) [(.slot 44)], some 45, none⟩, []⟩])
  (.seq (.region false [⟨⟨.mv (.slot 5), some 46, none⟩, []⟩,
    ⟨⟨.call (.const (.func 43 [] [])) [(.slot 46)], some 47, none⟩, []⟩,
    ⟨⟨.mv (.slot 47), some 4, none⟩, []⟩])
  .ret))))))),
  [.tmp 4]⟩
theorem xf25_ok : compFunc Try.prog Try.f25 = some xf25 := by kernel_rfl
/-- threshing/subsume.within -/
def xf26 : XFunc := ⟨(.seq (.region false [⟨⟨.mv (.const (.int .i32 (.ofNat 0))), some 4, none⟩, []⟩,
    ⟨⟨.mv (.const (.int .i64 (.ofNat 0))), some 5, none⟩, []⟩])
  (.seq (.region false [⟨⟨.mv (.const (.int .i32 (.ofNat 0))), some 6, none⟩, []⟩])
  (.seq (.region false [⟨⟨.mv (.const (.int .i64 (.ofNat 0))), some 7, none⟩, []⟩])
  (.seq (.seq (.region false [⟨⟨.mv (.slot 0), some 10, none⟩, []⟩,
    ⟨⟨.len .slice (.slot 10), some 11, none⟩, []⟩,
    ⟨⟨.mv (.const (.int .i64 (.ofNat 0))), some 12, none⟩, []⟩])
  (.block 0 (.loop (.seq (.region false [⟨⟨.bin .lss 3 .num (.slot 12) (.slot 11), some 13, none⟩, []⟩])
   (.seq (.cond (.slot 13)
    .skip
    (.exit 0))
   (.seq (.block 1 (.seq (.region false [⟨⟨.iaddr 1 (.slot 10) (.slot 12), some 14, none⟩, []⟩,
     ⟨⟨.load false 1 (.slot 14), some 15, none⟩, []⟩,
     ⟨⟨.mv (.slot 15), some 9, none⟩, []⟩])
   (.block 2 (.seq (.region false [⟨⟨.mv (.slot 1), some 19, none⟩, []⟩,
     ⟨⟨.mv (.slot 9), some 20, none⟩, []⟩,
     ⟨⟨.lookup .i32 (.bool false) (.slot 19) (.slot 20) false, some 21, none⟩, []⟩,
     ⟨⟨.mv (.slot 21), some 22, none⟩, []⟩,
     ⟨⟨.mv (.slot 9), some 23, some (22, false)⟩, []⟩,
     ⟨⟨.mv (.slot 6), some 24, some (22, false)⟩, []⟩,
     ⟨⟨.bin .eql 24 .num (.slot 23) (.slot 24), some 25, some (22, false)⟩, []⟩,
     ⟨⟨.pick (.slot 22) (.const (.bool true)) (.slot 25), some 26, none⟩, []⟩,
     ⟨⟨.mv (.slot 26), some 18, none⟩, []⟩])
   (.cond (.slot 18)
    .skip
    (.seq (.region false [⟨⟨.mv (.slot 1), some 28, none⟩, []⟩,
      ⟨⟨.mv (.slot 9), some 29, none⟩, []⟩,
      ⟨⟨.un .neg (.slot 29), some 30, none⟩, []⟩,
      ⟨⟨.lookup .i32 (.bool false) (.slot 28) (.slot 30) false, some 31, none⟩, []⟩,
      ⟨⟨.mv (.slot 31), some 32, none⟩, []⟩,
      ⟨⟨.mv (.slot 6), some 33, some (32, true)⟩, []⟩,
      ⟨⟨.bin .eql 24 .num (.slot 33) (.const (.int .i32 (.ofNat 0))), some 34, some (32, true)⟩, []⟩,
      ⟨⟨.pick (.slot 32) (.slot 34) (.const (.bool false)), some 35, none⟩, []⟩,
      ⟨⟨.mv (.slot 35), some 27, none⟩, []⟩])
    (.cond (.slot 27)
     (.region false [⟨⟨.mv (.slot 9), some 36, none⟩, []⟩,
       ⟨⟨.mv (.slot 36), some 6, none⟩, []⟩])
     (.region false [⟨⟨.mv (.slot 7), some 16, none⟩, []⟩,
       ⟨⟨.bin .add 3 .num (.slot 16) (.const (.int .i64 (.ofNat 1))), some 17, none⟩, []⟩,
       ⟨⟨.mv (.slot 17), some 7, none⟩, []⟩]))))))))
   (.region false [⟨⟨.bin .add 3 .num (.slot 12) (.const (.int .i64 (.ofNat 1))), some 37, none⟩, []⟩,
     ⟨⟨.mv (.slot 37), some 12, none⟩, []⟩])))))))
  (.seq (.region false [⟨⟨.mv (.slot 6), some 38, none⟩, []⟩,
    ⟨⟨.mv (.slot 7), some 39, none⟩, []⟩,
    ⟨⟨.mv (.slot 38), some 4, none⟩, []⟩,
    ⟨⟨.mv (.slot 39), some 5, none⟩, []⟩])
  .ret))))),
  [.tmp 4, .tmp 5]⟩
theorem xf26_ok : compFunc Try.prog Try.f26 = some xf26 := by kernel_rfl
/-- threshing/cnf.Same -/
def xf27 : XFunc := ⟨(.seq (.region false [⟨⟨.mv (.const (.bool false)), some 4, none⟩, []⟩])
  (.seq (.region false [⟨⟨.mv (.slot 0), some 5, none⟩, []⟩,
    ⟨⟨.mv (.slot 1), some 6, none⟩, []⟩,
    ⟨⟨.call (.const (.func 44 [] [])) [(.slot 5), (.slot 6)], some 7, none⟩, []⟩,
    ⟨⟨.mv (.slot 7), some 8, none⟩, []⟩,
    ⟨⟨.mv (.slot 1), some 9, some (8, true)⟩, []⟩,
    ⟨⟨.mv (.slot 0), some 10, some (8, true)⟩, []⟩,
    ⟨⟨.call (.const (.func 44 [] [])) [(.slot 9), (.slot 10)], some 11, some (8, true)⟩, []⟩,
    ⟨⟨.pick (.slot 8) (.slot 11) (.const (.bool false)), some 12, none⟩, []⟩,
    ⟨⟨.mv (.slot 12), some 4, none⟩, []⟩])
  .ret)),
  [.tmp 4]⟩
theorem xf27_ok : compFunc Try.prog Try.f27 = some xf27 := by kernel_rfl
/-- (*threshing/base.Base).Drop -/
def xf28 : XFunc := ⟨(.seq (.region false [⟨⟨.mv (.const (.int .i64 (.ofNat 0))), some 6, none⟩, []⟩])
  (.seq (.seq (.region false [⟨⟨.mv (.slot 0), some 12, none⟩, []⟩,
    ⟨⟨.bin .eql 22 .ptr (.slot 12) (.const .nilp), some 13, none⟩, []⟩])
  (.cond (.slot 13)
   (.seq (.region false [⟨⟨.mv (.const (.int .i64 (.ofNat 1))), some 6, none⟩, []⟩])
   .ret)
   .skip))
  (.seq (.region false [⟨⟨.mv (.slot 0), some 15, none⟩, []⟩,
    ⟨⟨.nilCheck (.slot 15), some 16, none⟩, []⟩,
    ⟨⟨.faddr 1 (.slot 16), some 17, none⟩, []⟩,
    ⟨⟨.load false 1 (.slot 17), some 18, none⟩, []⟩,
    ⟨⟨.mv (.slot 1), some 19, none⟩, []⟩,
    ⟨⟨.lookup .i64 (.agg [(.int .i64 (.ofNat 0)), .nils, (.bool false)]) (.slot 18) (.slot 19) true, some 20, none⟩, []⟩,
    ⟨⟨.mv (.slot 20), some 14, none⟩, []⟩,
    ⟨⟨.extract (.slot 14) 0, some 21, none⟩, []⟩,
    ⟨⟨.extract (.slot 14) 1, some 22, none⟩, []⟩,
    ⟨⟨.alloc [(.int .i64 (.ofNat 0)), .nils, (.bool false)], some 7, none⟩, []⟩,
    ⟨⟨.store 3 (.slot 7) (.slot 21), none, none⟩, []⟩,
    ⟨⟨.mv (.slot 22), some 8, none⟩, []⟩])
  (.seq (.region false [⟨⟨.mv (.slot 0), some 24, none⟩, []⟩,
    ⟨⟨.nilCheck (.slot 24), some 25, none⟩, []⟩,
    ⟨⟨.faddr 1 (.slot 25), some 26, none⟩, []⟩,
    ⟨⟨.load false 1 (.slot 26), some 27, none⟩, []⟩,
    ⟨⟨.mv (.slot 2), some 28, none⟩, []⟩,
    ⟨⟨.lookup .i64 (.agg [(.int .i64 (.ofNat 0)), .nils, (.bool false)]) (.slot 27) (.slot 28) true, some 29, none⟩, []⟩,
    ⟨⟨.mv (.slot 29), some 23, none⟩, []⟩,
    ⟨⟨.extract (.slot 23) 0, some 30, none⟩, []⟩,
    ⟨⟨.extract (.slot 23) 1, some 31, none⟩, []⟩,
    ⟨⟨.alloc [(.int .i64 (.ofNat 0)), .nils, (.bool false)], some 9, none⟩, []⟩,
    ⟨⟨.store 3 (.slot 9) (.slot 30), none, none⟩, []⟩,
    ⟨⟨.mv (.slot 31), some 10, none⟩, []⟩])
  (.seq (.block 0 (.seq (.seq (.region false [⟨⟨.mv (.slot 8), some 33, none⟩, []⟩,
    ⟨⟨.un .not (.slot 33), some 34, none⟩, []⟩,
    ⟨⟨.mv (.slot 34), some 32, none⟩, []⟩])
  (.cond (.slot 32)
   .skip
   (.region false [⟨⟨.mv (.slot 2), some 35, none⟩, []⟩,
     ⟨⟨.bin .neq 2 .num (.slot 35) (.const (.int .i64 (.ofNat 0))), some 36, none⟩, []⟩,
     ⟨⟨.mv (.slot 36), some 37, none⟩, []⟩,
     ⟨⟨.mv (.slot 10), some 38, some (37, true)⟩, []⟩,
     ⟨⟨.un .not (.slot 38), some 39, some (37, true)⟩, []⟩,
     ⟨⟨.pick (.slot 37) (.slot 39) (.const (.bool false)), some 40, none⟩, []⟩,
     ⟨⟨.mv (.slot 40), some 32, none⟩, []⟩])))
  (.cond (.slot 32)
   (.seq (.region false [⟨⟨.mv (.const (.int .i64 (.ofNat 5))), some 6, none⟩, []⟩])
   .ret)
   (.seq (.seq (.region false [⟨⟨.mv (.slot 2), some 42, none⟩, []⟩,
     ⟨⟨.mv (.slot 1), some 43, none⟩, []⟩,
     ⟨⟨.bin .eql 2 .num (.slot 42) (.slot 43), some 44, none⟩, []⟩,
     ⟨⟨.mv (.slot 44), some 41, none⟩, []⟩])
   (.cond (.slot 41)
    .skip
    (.seq (.region false [⟨⟨.mv (.slot 2), some 45, none⟩, []⟩,
      ⟨⟨.bin .eql 2 .num (.slot 45) (.const (.int .i64 (.ofNat 0))), some 46, none⟩, []⟩,
      ⟨⟨.mv (.slot 46), some 47, none⟩, []⟩,
      ⟨⟨.faddr 1 (.slot 7), some 48, some (47, true)⟩, []⟩,
      ⟨⟨.load false 1 (.slot 48), some 49, some (47, true)⟩, []⟩,
      ⟨⟨.call (.const (.func 45 [] [])) [(.slot 49)], some 50, some (47, true)⟩, []⟩,
      ⟨⟨.un .not (.slot 50), some 51, some (47, true)⟩, []⟩,
      ⟨⟨.pick (.slot 47) (.slot 51) (.const (.bool false)), some 52, none⟩, []⟩,
      ⟨⟨.mv (.slot 52), some 41, none⟩, []⟩])
    (.cond (.slot 41)
     .skip
     (.region false [⟨⟨.mv (.slot 2), some 53, none⟩, []⟩,
       ⟨⟨.bin .neq 2 .num (.slot 53) (.const (.int .i64 (.ofNat 0))), some 54, none⟩, []⟩,
       ⟨⟨.mv (.slot 54), some 55, none⟩, []⟩,
       ⟨⟨.faddr 1 (.slot 9), some 56, some (55, true)⟩, []⟩,
       ⟨⟨.load false 1 (.slot 56), some 57, some (55, true)⟩, []⟩,
       ⟨⟨.faddr 1 (.slot 7), some 58, some (55, true)⟩, []⟩,
       ⟨⟨.load false 1 (.slot 58), some 59, some (55, true)⟩, []⟩,
       ⟨⟨.call (.const (.func 44 [] [])) [(.slot 57), (.slot 59)], some 60, some (55, true)⟩, []⟩,
       ⟨⟨.un .not (.slot 60), some 61, some (55, true)⟩, []⟩,
       ⟨⟨.pick (.slot 55) (.slot 61) (.const (.bool false)), some 62, none⟩, []⟩,
       ⟨⟨.mv (.slot 62), some 41, none⟩, []⟩])))))
   (.cond (.slot 41)
    (.seq (.region false [⟨⟨.mv (.const (.int .i64 (.ofNat 2))), some 6, none⟩, []⟩])
    .ret)
    .skip)))))
  (.seq (.seq (.region false [⟨⟨.mv (.slot 0), some 63, none⟩, []⟩,
    ⟨⟨.load true 3 (.slot 7), some 64, none⟩, []⟩,
    ⟨⟨.call (.const (.func 46 [] [])) [(.slot 63), (.slot 64)], some 65, none⟩, []⟩,
    ⟨⟨.mv (.slot 65), some 11, none⟩, []⟩])
  (.seq (.region false [⟨⟨.mv (.slot 11), some 66, none⟩, []⟩,
    ⟨⟨.bin .neq 27 .num (.slot 66) (.const (.int .i64 (.ofNat 0))), some 67, none⟩, []⟩])
  (.cond (.slot 67)
   (.seq (.region false [⟨⟨.mv (.slot 11), some 68, none⟩, []⟩,
     ⟨⟨.mv (.slot 68), some 6, none⟩, []⟩])
   .ret)
   .skip)))
  (.seq (.seq (.region false [⟨⟨.mv (.slot 2), some 69, none⟩, []⟩,
    ⟨⟨.bin .neq 2 .num (.slot 69) (.const (.int .i64 (.ofNat 0))), some 70, none⟩, []⟩,
    ⟨⟨.mv (.slot 70), some 71, none⟩, []⟩,
    ⟨⟨.faddr 2 (.slot 7), some 72, some (71, true)⟩, []⟩,
    ⟨⟨.load false 1 (.slot 72), some 73, some (71, true)⟩, []⟩,
    ⟨⟨.un .not (.slot 73), some 74, some (71, true)⟩, []⟩,
    ⟨⟨.pick (.slot 71) (.slot 74) (.const (.bool false)), some 75, none⟩, []⟩])
  (.cond (.slot 75)
   (.region false [⟨⟨.mv (.slot 0), some 76, none⟩, []⟩,
     ⟨⟨.load true 3 (.slot 9), some 77, none⟩, []⟩,
     ⟨⟨.call (.const (.func 47 [] [])) [(.slot 76), (.slot 77)], some 78, none⟩, []⟩])
   .skip))
  (.seq (.region false [⟨⟨.mv (.slot 0), some 79, none⟩, []⟩,
    ⟨⟨.mv (.slot 1), some 80, none⟩, []⟩,
    ⟨⟨.mv (.slot 2), some 81, none⟩, []⟩,
    ⟨⟨.build [(.int .u8 (.ofNat 0)), (.int .i64 (.ofNat 0)), (.int .i64 (.ofNat 0)), (.bool false), .nils, .nils] [(0, 1, (.const (.int .u8 (.ofNat 4)))), (1, 1, (.slot 80)), (2, 1, (.slot 81))], some 82, none⟩, []⟩,
    ⟨⟨.call (.const (.func 23 [] [])) [(.slot 79), (.slot 82)], some 83, none⟩, []⟩,
    ⟨⟨.mv (.slot 83), some 6, none⟩, []⟩])
  .ret)))))))),
  [.tmp 6]⟩
theorem xf28_ok : compFunc Try.prog Try.f28 = some xf28 := by kernel_rfl
/-- threshing/subsume.by -/
def xf29 : XFunc := ⟨(.seq (.region false [⟨⟨.box (.slot 1), some 3, none⟩, []⟩,
    ⟨⟨.mv (.const (.int .i32 (.ofNat 0))), some 4, none⟩, []⟩])
  (.seq (.seq (.region false [⟨⟨.mv (.slot 0), some 8, none⟩, []⟩,
    ⟨⟨.len .slice (.slot 8), some 9, none⟩, []⟩,
    ⟨⟨.mv (.const (.int .i64 (.ofNat 0))), some 10, none⟩, []⟩])
  (.block 0 (.loop (.seq (.region false [⟨⟨.bin .lss 3 .num (.slot 10) (.slot 9), some 11, none⟩, []⟩])
   (.seq (.cond (.slot 11)
    .skip
    (.exit 0))
   (.seq (.block 1 (.seq (.region false [⟨⟨.iaddr 1 (.slot 8) (.slot 10), some 12, none⟩, []⟩,
     ⟨⟨.load false 1 (.slot 12), some 13, none⟩, []⟩,
     ⟨⟨.alloc [(.int .i32 (.ofNat 0))], some 6, none⟩, []⟩,
     ⟨⟨.store 1 (.slot 6) (.slot 13), none, none⟩, []⟩])
   (.seq (.region false [⟨⟨.mkfunc 48 [] [(.slot 6), (.slot 3)], some 14, none⟩, []⟩,
     ⟨⟨.mv (.slot 14), some 7, none⟩, []⟩])
   (.seq (.region false [⟨⟨.load false 1 (.slot 3), some 15, none⟩, []⟩,
     ⟨⟨.load false 1 (.slot 6), some 16, none⟩, []⟩,
     ⟨⟨.un .neg (.slot 16), some 17, none⟩, []⟩,
     ⟨⟨.lookup .i32 (.bool false) (.slot 15) (.slot 17) false, some 18, none⟩, []⟩,
     ⟨⟨.mv (.slot 18), some 19, none⟩, []⟩,
     ⟨⟨.mv (.slot 0), some 20, some (19, true)⟩, []⟩,
     ⟨⟨.load false 1 (.slot 6), some 21, some (19, true)⟩, []⟩,
     ⟨⟨.un .neg (.slot 21), some 22, some (19, true)⟩, []⟩,
     ⟨⟨.call (.const (.func 49 [] [])) [(.slot 20), (.slot 22)], some 23, some (19, true)⟩, []⟩,
     ⟨⟨.un .not (.slot 23), some 24, some (19, true)⟩, []⟩,
     ⟨⟨.pick (.slot 19) (.slot 24) (.const (.bool false)), some 25, none⟩, []⟩,
     ⟨⟨.mv (.slot 25), some 26, none⟩, []⟩,
     ⟨⟨.mv (.slot 0), some 27, some (26, true)⟩, []⟩,
     ⟨⟨.mv (.slot 7), some 28, some (26, true)⟩, []⟩,
     ⟨⟨.call (.const (.func 35 [] [])) [(.slot 27), (.slot 28)], some 29, some (26, true)⟩, []⟩,
     ⟨⟨.un .not (.slot 29), some 30, some (26, true)⟩, []⟩,
     ⟨⟨.pick (.slot 26) (.slot 30) (.const (.bool false)), some 31, none⟩, []⟩])
   (.cond (.slot 31)
    (.seq (.region false [⟨⟨.load false 1 (.slot 6), some 32, none⟩, []⟩,
      ⟨⟨.mv (.slot 32), some 4, none⟩, []⟩])
    .ret)
    .skip)))))
   (.region false [⟨⟨.bin .add 3 .num (.slot 10) (.const (.int .i64 (.ofNat 1))), some 33, none⟩, []⟩,
     ⟨⟨.mv (.slot 33), some 10, none⟩, []⟩])))))))
  (.seq (.region false [⟨⟨.mv (.const (.int .i32 (.ofNat 0))), some 4, none⟩, []⟩])
  .ret))),
  [.tmp 4]⟩
theorem xf29_ok : compFunc Try.prog Try.f29 = some xf29 := by kernel_rfl
/-- slices.DeleteFunc[threshing/api.Clause,threshing/api.Lit] -/
def xf30 : XFunc := ⟨(.seq (.region false [⟨⟨.mv (.const .nils), some 4, none⟩, []⟩])
  (.seq (.region false [⟨⟨.mv (.slot 0), some 8, none⟩, []⟩,
    ⟨⟨.mv (.slot 1), some 9, none⟩, []⟩,
    ⟨⟨.call (.const (.func 50 [] [])) [(.slot 8), (.slot 9)], some 10, none⟩, []⟩,
    ⟨⟨.mv (.slot 10), some 5, none⟩, []⟩])
  (.seq (.seq (.region false [⟨⟨.mv (.slot 5), some 11, none⟩, []⟩,
    ⟨⟨.bin .eql 3 .num (.slot 11) (.const (.int .i64 (.negSucc 0))), some 12, none⟩, []⟩])
  (.cond (.slot 12)
   (.seq (.region false [⟨⟨.mv (.slot 0), some 13, none⟩, []⟩,
     ⟨⟨.mv (.slot 13), some 4, none⟩, []⟩])
   .ret)
   .skip))
  (.seq (.seq (.region false [⟨⟨.mv (.slot 5), some 14, none⟩, []⟩,
    ⟨⟨.bin .add 3 .num (.slot 14) (.const (.int .i64 (.ofNat 1))), some 15, none⟩, []⟩,
    ⟨⟨.mv (.slot 15), some 6, none⟩, []⟩])
  (.block 0 (.loop (.seq (.seq (.region false [⟨⟨.mv (.slot 6), some 16, none⟩, []⟩,
     ⟨⟨.mv (.slot 0), some 17, none⟩, []⟩,
     ⟨⟨.len .slice (.slot 17), some 18, none⟩, []⟩,
     ⟨⟨.bin .lss 3 .num (.slot 16) (.slot 18), some 19, none⟩, []⟩])
   (.cond (.slot 19)
    .skip
    (.exit 0)))
   (.seq (.block 1 (.seq (.region false [⟨⟨.mv (.slot 0), some 22, none⟩, []⟩,
     ⟨⟨.mv (.slot 6), some 23, none⟩, []⟩,
     ⟨⟨.iaddr 1 (.slot 22) (.slot 23), some 24, none⟩, []⟩,
     ⟨⟨.load false 1 (.slot 24), some 25, none⟩, []⟩,
     ⟨⟨.mv (.slot 25), some 7, none⟩, []⟩])
   (.seq (.region false [⟨⟨.mv (.slot 1), some 26, none⟩, []⟩,
     ⟨⟨.mv (.slot 7), some 27, none⟩, []⟩,
     ⟨⟨.call (.slot 26) [(.slot 27)], some 28, none⟩, []⟩,
     ⟨⟨.un .not (.slot 28), some 29, none⟩, []⟩])
   (.cond (.slot 29)
    (.seq (.region false [⟨⟨.mv (.slot 0), some 30, none⟩, []⟩,
      ⟨⟨.mv (.slot 5), some 31, none⟩, []⟩,
      ⟨⟨.mv (.slot 7), some 32, none⟩, []⟩,
      ⟨⟨.iaddr 1 (.slot 30) (.slot 31), some 33, none⟩, []⟩,
      ⟨⟨.store 1 (.slot 33) (.slot 32), none, none⟩, []⟩])
    (.region false [⟨⟨.mv (.slot 5), some 34, none⟩, []⟩,
      ⟨⟨.bin .add 3 .num (.slot 34) (.const (.int .i64 (.ofNat 1))), some 35, none⟩, []⟩,
      ⟨⟨.mv (.slot 35), some 5, none⟩, []⟩]))
    .skip))))
   (.region false [⟨⟨.mv (.slot 6), some 20, none⟩, []⟩,
     ⟨⟨.bin .add 3 .num (.slot 20) (.const (.int .i64 (.ofNat 1))), some 21, none⟩, []⟩,
     ⟨⟨.mv (.slot 21), some 6, none⟩, []⟩]))))))
  (.seq (.region false [⟨⟨.mv (.slot 0), some 36, none⟩, []⟩,
    ⟨⟨.mv (.slot 5), some 37, none⟩, []⟩,
    ⟨⟨.slc 1 (.slot 36) (some (.slot 37)) none none, some 38, none⟩, []⟩,
    ⟨⟨.clear [(.int .i32 (.ofNat 0))] (.slot 38), none, none⟩, []⟩])
  (.seq (.region false [⟨⟨.mv (.slot 0), some 39, none⟩, []⟩,
    ⟨⟨.mv (.slot 5), some 40, none⟩, []⟩,
    ⟨⟨.slc 1 (.slot 39) none (some (.slot 40)) none, some 41, none⟩, []⟩,
    ⟨⟨.mv (.slot 41), some 4, none⟩, []⟩])
  .ret)))))),
  [.tmp 4]⟩
theorem xf30_ok : compFunc Try.prog Try.f30 = some xf30 := by kernel_rfl
/-- threshing/subsume.look$1 -/
def xf31 : XFunc := ⟨(.seq (.region false [⟨⟨.mv (.const (.bool false)), some 3, none⟩, []⟩])
  (.seq (.region false [⟨⟨.mv (.slot 0), some 4, none⟩, []⟩,
    ⟨⟨.load false 1 (.slot 1), some 5, none⟩, []⟩,
    ⟨⟨.un .neg (.slot 5), some 6, none⟩, []⟩,
    ⟨⟨.bin .eql 24 .num (.slot 4) (.slot 6), some 7, none⟩, []⟩,
    ⟨⟨.mv (.slot 7), some 3, none⟩, []⟩])
  .ret)),
  [.tmp 3]⟩
theorem xf31_ok : compFunc Try.prog Try.f31 = some xf31 := by kernel_rfl
/-- slices.Collect[int64] -/
def xf32 : XFunc := ⟨(.seq (.region false [⟨⟨.mv (.const .nils), some 2, none⟩, []⟩])
  (.seq (.region false [⟨⟨.mv (.slot 0), some 3, none⟩, []⟩,
    ⟨⟨.call (.const (.func 51 [] [])) [(.const .nils), (.slot 3)], some 4, none⟩, []⟩,
    ⟨⟨.mv (.slot 4), some 2, none⟩, []⟩])
  .ret)),
  [.tmp 2]⟩
theorem xf32_ok : compFunc Try.prog Try.f32 = some xf32 := by kernel_rfl
/-- slices.Sort[[]int64,int64] -/
def xf33 : XFunc := ⟨(.seq (.region false [⟨⟨.mv (.slot 0), some 3, none⟩, []⟩,
    ⟨⟨.len .slice (.slot 3), some 4, none⟩, []⟩,
    ⟨⟨.mv (.slot 4), some 2, none⟩, []⟩])
  (.region false [⟨⟨.mv (.slot 0), some 5, none⟩, []⟩,
    ⟨⟨.mv (.slot 2), some 6, none⟩, []⟩,
    ⟨⟨.mv (.slot 2), some 7, none⟩, []⟩,
    ⟨⟨.conv .u64 (.slot 7), some 8, none⟩, []⟩,
    ⟨⟨.call (.const (.func 53 [] [])) [(.slot 8)], some 9, none⟩, []⟩,
    ⟨⟨.call (.const (.func 52 [] [])) [(.slot 5), (.const (.int .i64 (.ofNat 0))), (.slot 6), (.slot 9)], some 10, none⟩, []⟩])),
  []⟩
theorem xf33_ok : compFunc Try.prog Try.f33 = some xf33 := by kernel_rfl
/-- maps.Keys[map[int64]threshing/api.Entry,int64,threshing/api.Entry]$1 -/
def xf34 : XFunc := ⟨(.seq (.region false [⟨⟨.load false 1 (.slot 1), some 4, none⟩, []⟩,
    ⟨⟨.range .i64 (.slot 4), some 5, none⟩, []⟩])
  (.block 0 (.loop (.seq (.region false [⟨⟨.next (.slot 5), some 6, none⟩, []⟩,
     ⟨⟨.extract (.slot 6) 0, some 7, none⟩, []⟩])
   (.seq (.cond (.slot 7)
    .skip
    (.exit 0))
   (.block 1 (.seq (.region false [⟨⟨.entry (.slot 5), some 8, none⟩, []⟩,
     ⟨⟨.extract (.slot 8) 0, some 9, none⟩, []⟩,
     ⟨⟨.mv (.slot 9), some 3, none⟩, []⟩])
   (.seq (.region false [⟨⟨.mv (.slot 0), some 10, none⟩, []⟩,
     ⟨⟨.mv (.slot 3), some 11, none⟩, []⟩,
     ⟨⟨.call (.slot 10) [(.slot 11)], some 12, none⟩, []⟩,
     ⟨⟨.un .not (.slot 12), some 13, none⟩, []⟩])
   (.cond (.slot 13)
    .ret
    .skip))))))))),
  []⟩
theorem xf34_ok : compFunc Try.prog Try.f34 = some xf34 := by kernel_rfl
/-- slices.ContainsFunc[threshing/api.Clause,threshing/api.Lit] -/
def xf35 : XFunc := ⟨(.seq (.region false [⟨⟨.mv (.const (.bool false)), some 4, none⟩, []⟩])
  (.seq (.region false [⟨⟨.mv (.slot 0), some 5, none⟩, []⟩,
    ⟨⟨.mv (.slot 1), some 6, none⟩, []⟩,
    ⟨⟨.call (.const (.func 50 [] [])) [(.slot 5), (.slot 6)], some 7, none⟩, []⟩,
    ⟨⟨.bin .geq 3 .num (.slot 7) (.const (.int .i64 (.ofNat 0))), some 8, none⟩, []⟩,
    ⟨⟨.mv (.slot 8), some 4, none⟩, []⟩])
  .ret)),
  [.tmp 4]⟩
theorem xf35_ok : compFunc Try.prog Try.f35 = some xf35 := by kernel_rfl
/-- (*threshing/base.Base).right$1 -/
def xf36 : XFunc := ⟨(.seq (.region false [⟨⟨.mv (.const (.bool false)), some 3, none⟩, []⟩])
  (.seq (.region true [⟨⟨.mv (.slot 0), some 4, none⟩, []⟩,
    ⟨⟨.bin .eql 24 .num (.slot 4) (.const (.int .i32 (.ofNat 0))), some 5, none⟩, []⟩,
    ⟨⟨.mv (.slot 5), some 6, none⟩, []⟩,
    ⟨⟨.mv (.slot 0), some 7, some (6, false)⟩, []⟩,
    ⟨⟨.load false 1 (.slot 1), some 9, some (6, false)⟩, []⟩,
    ⟨⟨.nilCheck (.slot 9), some 10, some (6, false)⟩, []⟩,
    ⟨⟨.faddr 0 (.slot 10), some 11, some (6, false)⟩, []⟩,
    ⟨⟨.load false 1 (.slot 11), some 12, some (6, false)⟩, []⟩,
    ⟨⟨.call (.const (.func 37 [] [])) [(.slot 7)], some 8, some (6, false)⟩, [⟨.load false 1 (.slot 1), some 9, some (6, false)⟩, ⟨.load false 1 (.slot 11), some 12, some (6, false)⟩]⟩,
    ⟨⟨.bin .gtr 3 .num (.slot 8) (.slot 12), some 13, some (6, false)⟩, []⟩,
    ⟨⟨.pick (.slot 6) (.const (.bool true)) (.slot 13), some 14, none⟩, []⟩,
    ⟨⟨.mv (.slot 14), some 3, none⟩, []⟩])
  .ret)),
  [.tmp 3]⟩
theorem xf36_ok : compFunc Try.prog Try.f36 = some xf36 := by kernel_rfl
/-- threshing/cnf.Var -/
def xf37 : XFunc := ⟨(.seq (.region false [⟨⟨.mv (.const (.int .i64 (.ofNat 0))), some 2, none⟩, []⟩])
  (.seq (.region false [⟨⟨.mv (.slot 0), some 3, none⟩, []⟩,
    ⟨⟨.call (.const (.func 54 [] [])) [(.slot 3)], some 4, none⟩, []⟩,
    ⟨⟨.mv (.slot 4), some 2, none⟩, []⟩])
  .ret)),
  [.tmp 2]⟩
theorem xf37_ok : compFunc Try.prog Try.f37 = some xf37 := by kernel_rfl
/-- (*threshing/base.Base).follows$1 -/
def xf38 : XFunc := ⟨(.seq (.region false [⟨⟨.mv (.const (.bool false)), some 3, none⟩, []⟩])
  (.seq (.region false [⟨⟨.load false 1 (.slot 1), some 4, none⟩, []⟩,
    ⟨⟨.mv (.slot 0), some 5, none⟩, []⟩,
    ⟨⟨.mapup .i32 (.slot 4) (.slot 5) (.const (.bool true)), none, none⟩, []⟩])
  (.seq (.region false [⟨⟨.load false 1 (.slot 1), some 6, none⟩, []⟩,
    ⟨⟨.mv (.slot 0), some 7, none⟩, []⟩,
    ⟨⟨.un .neg (.slot 7), some 8, none⟩, []⟩,
    ⟨⟨.lookup .i32 (.bool false) (.slot 6) (.slot 8) false, some 9, none⟩, []⟩,
    ⟨⟨.mv (.slot 9), some 3, none⟩, []⟩])
  .ret))),
  [.tmp 3]⟩
theorem xf38_ok : compFunc Try.prog Try.f38 = some xf38 := by kernel_rfl
/-- threshing/cnf.Normal -/
def xf39 : XFunc := ⟨(.seq (.region false [⟨⟨.mv (.const .nils), some 2, none⟩, []⟩,
    ⟨⟨.mv (.const (.bool false)), some 3, none⟩, []⟩])
  (.seq (.region false [⟨⟨.mv (.slot 0), some 7, none⟩, []⟩,
    ⟨⟨.call (.const (.func 21 [] [])) [(.slot 7)], some 8, none⟩, []⟩,
    ⟨⟨.mv (.slot 8), some 4, none⟩, []⟩])
  (.seq (.region false [⟨⟨.mv (.slot 4), some 9, none⟩, []⟩,
    ⟨⟨.call (.const (.func 55 [] [])) [(.slot 9), (.const (.func 56 [] []))], some 10, none⟩, []⟩])
  (.seq (.region false [⟨⟨.mv (.slot 4), some 11, none⟩, []⟩,
    ⟨⟨.call (.const (.func 57 [] [])) [(.slot 11)], some 12, none⟩, []⟩,
    ⟨⟨.mv (.slot 12), some 4, none⟩, []⟩])
  (.seq (.region false [⟨⟨.mv (.const (.bool false)), some 5, none⟩, []⟩])
  (.seq (.seq (.region false [⟨⟨.mv (.slot 4), some 13, none⟩, []⟩,
    ⟨⟨.len .slice (.slot 13), some 14, none⟩, []⟩,
    ⟨⟨.mv (.const (.int .i64 (.ofNat 0))), some 15, none⟩, []⟩])
  (.block 0 (.loop (.seq (.region false [⟨⟨.bin .lss 3 .num (.slot 15) (.slot 14), some 16, none⟩, []⟩])
   (.seq (.cond (.slot 16)
    .skip
    (.exit 0))
   (.seq (.block 1 (.seq (.region false [⟨⟨.mv (.slot 15), some 17, none⟩, []⟩,
     ⟨⟨.mv (.slot 17), some 6, none⟩, []⟩])
   (.region true [⟨⟨.mv (.slot 5), some 18, none⟩, []⟩,
     ⟨⟨.mv (.slot 18), some 19, none⟩, []⟩,
     ⟨⟨.mv (.slot 6), some 20, some (19, false)⟩, []⟩,
     ⟨⟨.bin .gtr 3 .num (.slot 20) (.const (.int .i64 (.ofNat 0))), some 21, some (19, false)⟩, []⟩,
     ⟨⟨.mv (.slot 21), some 22, some (19, false)⟩, []⟩,
     ⟨⟨.mv (.slot 4), some 23, some (22, true)⟩, []⟩,
     ⟨⟨.mv (.slot 6), some 24, some (22, true)⟩, []⟩,
     ⟨⟨.iaddr 1 (.slot 23) (.slot 24), some 25, some (22, true)⟩, []⟩,
     ⟨⟨.load false 1 (.slot 25), some 26, some (22, true)⟩, []⟩,
     ⟨⟨.bin .gtr 24 .num (.slot 26) (.const (.int .i32 (.ofNat 0))), some 27, some (22, true)⟩, []⟩,
     ⟨⟨.pick (.slot 22) (.slot 27) (.const (.bool false)), some 28, some (19, false)⟩, []⟩,
     ⟨⟨.mv (.slot 28), some 29, some (19, false)⟩, []⟩,
     ⟨⟨.mv (.slot 4), some 30, some (29, true)⟩, []⟩,
     ⟨⟨.mv (.slot 6), some 31, some (29, true)⟩, []⟩,
     ⟨⟨.iaddr 1 (.slot 30) (.slot 31), some 32, some (29, true)⟩, []⟩,
     ⟨⟨.load false 1 (.slot 32), some 33, some (29, true)⟩, []⟩,
     ⟨⟨.mv (.slot 4), some 34, some (29, true)⟩, []⟩,
     ⟨⟨.mv (.slot 6), some 35, some (29, true)⟩, []⟩,
     ⟨⟨.bin .sub 3 .num (.slot 35) (.const (.int .i64 (.ofNat 1))), some 36, some (29, true)⟩, []⟩,
     ⟨⟨.iaddr 1 (.slot 34) (.slot 36), some 37, some (29, true)⟩, []⟩,
     ⟨⟨.load false 1 (.slot 37), some 38, some (29, true)⟩, []⟩,
     ⟨⟨.un .neg (.slot 38), some 39, some (29, true)⟩, []⟩,
     ⟨⟨.bin .eql 24 .num (.slot 33) (.slot 39), some 40, some (29, true)⟩, []⟩,
     ⟨⟨.pick (.slot 29) (.slot 40) (.const (.bool false)), some 41, some (19, false)⟩, []⟩,
     ⟨⟨.pick (.slot 19) (.const (.bool true)) (.slot 41), some 42, none⟩, []⟩,
     ⟨⟨.mv (.slot 42), some 5, none⟩, []⟩])))
   (.region false [⟨⟨.bin .add 3 .num (.slot 15) (.const (.int .i64 (.ofNat 1))), some 43, none⟩, []⟩,
     ⟨⟨.mv (.slot 43), some 15, none⟩, []⟩])))))))
  (.seq (.region false [⟨⟨.mv (.slot 4), some 44, none⟩, []⟩,
    ⟨⟨.call (.const (.func 58 [] [])) [(.slot 44)], some 45, none⟩, []⟩,
    ⟨⟨.mv (.slot 5), some 46, none⟩, []⟩,
    ⟨⟨.mv (.slot 45), some 2, none⟩, []⟩,
    ⟨⟨.mv (.slot 46), some 3, none⟩, []⟩])
  .ret))))))),
  [.tmp 2, .tmp 3]⟩
theorem xf39_ok : compFunc Try.prog Try.f39 = some xf39 := by kernel_rfl
/-- slices.Concat[[]int64,int64] -/
def xf40 : XFunc := ⟨(.seq (.region false [⟨⟨.mv (.const .nils), some 2, none⟩, []⟩])
  (.seq (.region false [⟨⟨.mv (.const (.int .i64 (.ofNat 0))), some 3, none⟩, []⟩])
  (.seq (.seq (.region false [⟨⟨.mv (.slot 0), some 9, none⟩, []⟩,
    ⟨⟨.len .slice (.slot 9), some 10, none⟩, []⟩,
    ⟨⟨.mv (.const (.int .i64 (.ofNat 0))), some 11, none⟩, []⟩])
  (.block 0 (.loop (.seq (.region false [⟨⟨.bin .lss 3 .num (.slot 11) (.slot 10), some 12, none⟩, []⟩])
   (.seq (.cond (.slot 12)
    .skip
    (.exit 0))
   (.seq (.block 1 (.seq (.region false [⟨⟨.iaddr 1 (.slot 9) (.slot 11), some 13, none⟩, []⟩,
     ⟨⟨.load false 1 (.slot 13), some 14, none⟩, []⟩,
     ⟨⟨.mv (.slot 14), some 5, none⟩, []⟩])
   (.seq (.region false [⟨⟨.mv (.slot 3), some 15, none⟩, []⟩,
     ⟨⟨.mv (.slot 5), some 16, none⟩, []⟩,
     ⟨⟨.len .slice (.slot 16), some 17, none⟩, []⟩,
     ⟨⟨.bin .add 3 .num (.slot 15) (.slot 17), some 18, none⟩, []⟩,
     ⟨⟨.mv (.slot 18), some 3, none⟩, []⟩])
   (.seq (.region false [⟨⟨.mv (.slot 3), some 19, none⟩, []⟩,
     ⟨⟨.bin .lss 3 .num (.slot 19) (.const (.int .i64 (.ofNat 0))), some 20, none⟩, []⟩])
   (.cond (.slot 20)
    (.region false [⟨⟨.mkif 9 (.const (.str ⟨⟨[108, 101, 110, 32, 111, 117, 116, 32, 111, 102, 32, 114, 97, 110, 103, 101]⟩⟩)), some 21, none⟩, []⟩,
      ⟨⟨.bad, none, none⟩, []⟩])
    .skip)))))
   (.region false [⟨⟨.bin .add 3 .num (.slot 11) (.const (.int .i64 (.ofNat 1))), some 22, none⟩, []⟩,
     ⟨⟨.mv (.slot 22), some 11, none⟩, []⟩])))))))
  (.seq (.region false [⟨⟨.mv (.slot 3), some 23, none⟩, []⟩,
    ⟨⟨.call (.const (.func 59 [] [])) [(.const .nils), (.slot 23)], some 24, none⟩, []⟩,
    ⟨⟨.mv (.slot 24), some 6, none⟩, []⟩])
  (.seq (.seq (.region false [⟨⟨.mv (.slot 0), some 25, none⟩, []⟩,
    ⟨⟨.len .slice (.slot 25), some 26, none⟩, []⟩,
    ⟨⟨.mv (.const (.int .i64 (.ofNat 0))), some 27, none⟩, []⟩])
  (.block 2 (.loop (.seq (.region false [⟨⟨.bin .lss 3 .num (.slot 27) (.slot 26), some 28, none⟩, []⟩])
   (.seq (.cond (.slot 28)
    .skip
    (.exit 2))
   (.seq (.block 3 (.seq (.region false [⟨⟨.iaddr 1 (.slot 25) (.slot 27), some 29, none⟩, []⟩,
     ⟨⟨.load false 1 (.slot 29), some 30, none⟩, []⟩,
     ⟨⟨.mv (.slot 30), some 8, none⟩, []⟩])
   (.region false [⟨⟨.mv (.slot 6), some 31, none⟩, []⟩,
     ⟨⟨.mv (.slot 8), some 32, none⟩, []⟩,
     ⟨⟨.append 1 8 (.slot 31) (.slot 32), some 33, none⟩, []⟩,
     ⟨⟨.mv (.slot 33), some 6, none⟩, []⟩])))
   (.region false [⟨⟨.bin .add 3 .num (.slot 27) (.const (.int .i64 (.ofNat 1))), some 34, none⟩, []⟩,
     ⟨⟨.mv (.slot 34), some 27, none⟩, []⟩])))))))
  (.seq (.region false [⟨⟨.mv (.slot 6), some 35, none⟩, []⟩,
    ⟨⟨.mv (.slot 35), some 2, none⟩, []⟩])
  .ret)))))),
  [.tmp 2]⟩
theorem xf40_ok : compFunc Try.prog Try.f40 = some xf40 := by kernel_rfl
/-- (*threshing/base.Base).Occurs -/
def xf41 : XFunc := ⟨(.seq (.region false [⟨⟨.mv (.const .nils), some 4, none⟩, []⟩])
  (.seq (.seq (.region false [⟨⟨.mv (.slot 0), some 5, none⟩, []⟩,
    ⟨⟨.bin .eql 22 .ptr (.slot 5) (.const .nilp), some 6, none⟩, []⟩])
  (.cond (.slot 6)
   (.seq (.region false [⟨⟨.mv (.const .nils), some 4, none⟩, []⟩])
   .ret)
   .skip))
  (.seq (.region false [⟨⟨.mv (.slot 0), some 7, none⟩, []⟩,
    ⟨⟨.nilCheck (.slot 7), some 8, none⟩, []⟩,
    ⟨⟨.faddr 2 (.slot 8), some 9, none⟩, []⟩,
    ⟨⟨.load false 1 (.slot 9), some 10, none⟩, []⟩,
    ⟨⟨.mv (.slot 1), some 11, none⟩, []⟩,
    ⟨⟨.lookup .i32 .nilm (.slot 10) (.slot 11) false, some 12, none⟩, []⟩,
    ⟨⟨.call (.const (.func 60 [] [])) [(.slot 12)], some 13, none⟩, []⟩,
    ⟨⟨.call (.const (.func 14 [] [])) [(.slot 13)], some 14, none⟩, []⟩,
    ⟨⟨.mv (.slot 14), some 4, none⟩, []⟩])
  .ret))),
  [.tmp 4]⟩
theorem xf41_ok : compFunc Try.prog Try.f41 = some xf41 := by kernel_rfl
/-- (*threshing/base.Base).Empty -/
def xf42 : XFunc := ⟨(.seq (.region false [⟨⟨.mv (.const (.int .i64 (.ofNat 0))), some 2, none⟩, []⟩,
    ⟨⟨.mv (.const (.bool false)), some 3, none⟩, []⟩])
  (.seq (.seq (.region false [⟨⟨.mv (.slot 0), some 4, none⟩, []⟩,
    ⟨⟨.bin .eql 22 .ptr (.slot 4) (.const .nilp), some 5, none⟩, []⟩,
    ⟨⟨.mv (.slot 5), some 6, none⟩, []⟩,
    ⟨⟨.mv (.slot 0), some 7, some (6, false)⟩, []⟩,
    ⟨⟨.nilCheck (.slot 7), some 8, some (6, false)⟩, []⟩,
    ⟨⟨.faddr 3 (.slot 8), some 9, some (6, false)⟩, []⟩,
    ⟨⟨.load false 1 (.slot 9), some 10, some (6, false)⟩, []⟩,
    ⟨⟨.len .map (.slot 10), some 11, some (6, false)⟩, []⟩,
    ⟨⟨.bin .eql 3 .num (.slot 11) (.const (.int .i64 (.ofNat 0))), some 12, some (6, false)⟩, []⟩,
    ⟨⟨.pick (.slot 6) (.const (.bool true)) (.slot 12), some 13, none⟩, []⟩])
  (.cond (.slot 13)
   (.seq (.region false [⟨⟨.mv (.const (.int .i64 (.ofNat 0))), some 2, none⟩, []⟩,
     ⟨⟨.mv (.const (.bool false)), some 3, none⟩, []⟩])
   .ret)
   .skip))
  (.seq (.region false [⟨⟨.mv (.slot 0), some 14, none⟩, []⟩,
    ⟨⟨.nilCheck (.slot 14), some 15, none⟩, []⟩,
    ⟨⟨.faddr 3 (.slot 15), some 16, none⟩, []⟩,
    ⟨⟨.load false 1 (.slot 16), some 17, none⟩, []⟩,
    ⟨⟨.call (.const (.func 60 [] [])) [(.slot 17)], some 18, none⟩, []⟩,
    ⟨⟨.call (.const (.func 32 [] [])) [(.slot 18)], some 19, none⟩, []⟩,
    ⟨⟨.call (.const (.func 61 [] [])) [(.slot 19)], some 20, none⟩, []⟩,
    ⟨⟨.mv (.slot 20), some 2, none⟩, []⟩,
    ⟨⟨.mv (.const (.bool true)), some 3, none⟩, []⟩])
  .ret))),
  [.tmp 2, .tmp 3]⟩
theorem xf42_ok : compFunc Try.prog Try.f42 = some xf42 := by kernel_rfl
/-- slices.Compact[[]int64,int64] -/
def xf43 : XFunc := ⟨(.seq (.region false [⟨⟨.mv (.const .nils), some 2, none⟩, []⟩])
  (.seq (.seq (.region false [⟨⟨.mv (.slot 0), some 6, none⟩, []⟩,
    ⟨⟨.len .slice (.slot 6), some 7, none⟩, []⟩,
    ⟨⟨.bin .lss 3 .num (.slot 7) (.const (.int .i64 (.ofNat 2))), some 8, none⟩, []⟩])
  (.cond (.slot 8)
   (.seq (.region false [⟨⟨.mv (.slot 0), some 9, none⟩, []⟩,
     ⟨⟨.mv (.slot 9), some 2, none⟩, []⟩])
   .ret)
   .skip))
  (.seq (.seq (.region false [⟨⟨.mv (.const (.int .i64 (.ofNat 1))), some 3, none⟩, []⟩])
  (.block 0 (.loop (.seq (.seq (.region false [⟨⟨.mv (.slot 3), some 10, none⟩, []⟩,
     ⟨⟨.mv (.slot 0), some 11, none⟩, []⟩,
     ⟨⟨.len .slice (.slot 11), some 12, none⟩, []⟩,
     ⟨⟨.bin .lss 3 .num (.slot 10) (.slot 12), some 13, none⟩, []⟩])
   (.cond (.slot 13)
    .skip
    (.exit 0)))
   (.seq (.block 1 (.seq (.region true [⟨⟨.mv (.slot 0), some 16, none⟩, []⟩,
     ⟨⟨.mv (.slot 3), some 17, none⟩, []⟩,
     ⟨⟨.iaddr 1 (.slot 16) (.slot 17), some 18, none⟩, []⟩,
     ⟨⟨.load false 1 (.slot 18), some 19, none⟩, []⟩,
     ⟨⟨.mv (.slot 0), some 20, none⟩, []⟩,
     ⟨⟨.mv (.slot 3), some 21, none⟩, []⟩,
     ⟨⟨.bin .sub 3 .num (.slot 21) (.const (.int .i64 (.ofNat 1))), some 22, none⟩, []⟩,
     ⟨⟨.iaddr 1 (.slot 20) (.slot 22), some 23, none⟩, []⟩,
     ⟨⟨.load false 1 (.slot 23), some 24, none⟩, []⟩,
     ⟨⟨.bin .eql 2 .num (.slot 19) (.slot 24), some 25, none⟩, []⟩])
   (.cond (.slot 25)
    (.seq (.region false [⟨⟨.mv (.slot 0), some 26, none⟩, []⟩,
      ⟨⟨.mv (.slot 3), some 27, none⟩, []⟩,
      ⟨⟨.slc 1 (.slot 26) (some (.slot 27)) none none, some 28, none⟩, []⟩,
      ⟨⟨.mv (.slot 28), some 4, none⟩, []⟩])
    (.seq (.seq (.region false [⟨⟨.mv (.const (.int .i64 (.ofNat 1))), some 5, none⟩, []⟩])
    (.block 2 (.loop (.seq (.seq (.region false [⟨⟨.mv (.slot 5), some 29, none⟩, []⟩,
       ⟨⟨.mv (.slot 4), some 30, none⟩, []⟩,
       ⟨⟨.len .slice (.slot 30), some 31, none⟩, []⟩,
       ⟨⟨.bin .lss 3 .num (.slot 29) (.slot 31), some 32, none⟩, []⟩])
     (.cond (.slot 32)
      .skip
      (.exit 2)))
     (.seq (.block 3 (.seq (.region true [⟨⟨.mv (.slot 4), some 35, none⟩, []⟩,
       ⟨⟨.mv (.slot 5), some 36, none⟩, []⟩,
       ⟨⟨.iaddr 1 (.slot 35) (.slot 36), some 37, none⟩, []⟩,
       ⟨⟨.load false 1 (.slot 37), some 38, none⟩, []⟩,
       ⟨⟨.mv (.slot 4), some 39, none⟩, []⟩,
       ⟨⟨.mv (.slot 5), some 40, none⟩, []⟩,
       ⟨⟨.bin .sub 3 .num (.slot 40) (.const (.int .i64 (.ofNat 1))), some 41, none⟩, []⟩,
       ⟨⟨.iaddr 1 (.slot 39) (.slot 41), some 42, none⟩, []⟩,
       ⟨⟨.load false 1 (.slot 42), some 43, none⟩, []⟩,
       ⟨⟨.bin .neq 2 .num (.slot 38) (.slot 43), some 44, none⟩, []⟩])
     (.cond (.slot 44)
      (.seq (.region false [⟨⟨.mv (.slot 0), some 45, none⟩, []⟩,
        ⟨⟨.mv (.slot 3), some 46, none⟩, []⟩,
        ⟨⟨.mv (.slot 4), some 47, none⟩, []⟩,
        ⟨⟨.mv (.slot 5), some 48, none⟩, []⟩,
        ⟨⟨.iaddr 1 (.slot 47) (.slot 48), some 49, none⟩, []⟩,
        ⟨⟨.load false 1 (.slot 49), some 50, none⟩, []⟩,
        ⟨⟨.iaddr 1 (.slot 45) (.slot 46), some 51, none⟩, []⟩,
        ⟨⟨.store 1 (.slot 51) (.slot 50), none, none⟩, []⟩])
      (.region false [⟨⟨.mv (.slot 3), some 52, none⟩, []⟩,
        ⟨⟨.bin .add 3 .num (.slot 52) (.const (.int .i64 (.ofNat 1))), some 53, none⟩, []⟩,
        ⟨⟨.mv (.slot 53), some 3, none⟩, []⟩]))
      .skip)))
     (.region false [⟨⟨.mv (.slot 5), some 33, none⟩, []⟩,
       ⟨⟨.bin .add 3 .num (.slot 33) (.const (.int .i64 (.ofNat 1))), some 34, none⟩, []⟩,
       ⟨⟨.mv (.slot 34), some 5, none⟩, []⟩]))))))
    (.seq (.region false [⟨⟨.mv (.slot 0), some 54, none⟩, []⟩,
      ⟨⟨.mv (.slot 3), some 55, none⟩, []⟩,
      ⟨⟨.slc 1 (.slot 54) (some (.slot 55)) none none, some 56, none⟩, []⟩,
      ⟨⟨.clear [(.int .i64 (.ofNat 0))] (.slot 56), none, none⟩, []⟩])
    (.seq (.region false [⟨⟨.mv (.slot 0), some 57, none⟩, []⟩,
      ⟨⟨.mv (.slot 3), some 58, none⟩, []⟩,
      ⟨⟨.slc 1 (.slot 57) none (some (.slot 58)) none, some 59, none⟩, []⟩,
      ⟨⟨.mv (.slot 59), some 2, none⟩, []⟩])
    .ret))))
    .skip)))
   (.region false [⟨⟨.mv (.slot 3), some 14, none⟩, []⟩,
     ⟨⟨.bin .add 3 .num (.slot 14) (.const (.int .i64 (.ofNat 1))), some 15, none⟩, []⟩,
     ⟨⟨.mv (.slot 15), some 3, none⟩, []⟩]))))))
  (.seq (.region false [⟨⟨.mv (.slot 0), some 60, none⟩, []⟩,
    ⟨⟨.mv (.slot 60), some 2, none⟩, []⟩])
  .ret)))),
  [.tmp 2]⟩
theorem xf43_ok : compFunc Try.prog Try.f43 = some xf43 := by kernel_rfl
/-- threshing/cnf.Subsumes -/
def xf44 : XFunc := ⟨(.seq (.region false [⟨⟨.box (.slot 1), some 3, none⟩, []⟩,
    ⟨⟨.mv (.const (.bool false)), some 4, none⟩, []⟩])
  (.seq (.region false [⟨⟨.mv (.slot 0), some 5, none⟩, []⟩,
    ⟨⟨.mkfunc 62 [] [(.slot 3)], some 6, none⟩, []⟩,
    ⟨⟨.call (.const (.func 35 [] [])) [(.slot 5), (.slot 6)], some 7, none⟩, []⟩,
    ⟨⟨.un .not (.slot 7), some 8, none⟩, []⟩,
    ⟨⟨.mv (.slot 8), some 4, none⟩, []⟩])
  .ret)),
  [.tmp 4]⟩
theorem xf44_ok : compFunc Try.prog Try.f44 = some xf44 := by kernel_rfl
/-- threshing/base.both -/
def xf45 : XFunc := ⟨(.seq (.region false [⟨⟨.box (.slot 0), some 1, none⟩, []⟩,
    ⟨⟨.mv (.const (.bool false)), some 2, none⟩, []⟩])
  (.seq (.region false [⟨⟨.load false 1 (.slot 1), some 3, none⟩, []⟩,
    ⟨⟨.mkfunc 63 [] [(.slot 1)], some 4, none⟩, []⟩,
    ⟨⟨.call (.const (.func 35 [] [])) [(.slot 3), (.slot 4)], some 5, none⟩, []⟩,
    ⟨⟨.mv (.slot 5), some 2, none⟩, []⟩])
  .ret)),
  [.tmp 2]⟩
theorem xf45_ok : compFunc Try.prog Try.f45 = some xf45 := by kernel_rfl
/-- (*threshing/base.Base).remove -/
def xf46 : XFunc := ⟨(.seq (.region false [⟨⟨.box (.slot 1), some 3, none⟩, []⟩,
    ⟨⟨.mv (.const (.int .i64 (.ofNat 0))), some 4, none⟩, []⟩])
  (.seq (.seq (.region false [⟨⟨.mv (.slot 0), some 7, none⟩, []⟩,
    ⟨⟨.call (.const (.func 17 [] [])) [(.slot 7)], some 8, none⟩, []⟩])
  (.cond (.slot 8)
   (.seq (.region false [⟨⟨.mv (.const (.int .i64 (.ofNat 3))), some 4, none⟩, []⟩])
   .ret)
   .skip))
  (.seq (.region true [⟨⟨.mv (.slot 0), some 9, none⟩, []⟩,
    ⟨⟨.nilCheck (.slot 9), some 10, none⟩, []⟩,
    ⟨⟨.faddr 1 (.slot 10), some 11, none⟩, []⟩,
    ⟨⟨.load false 1 (.slot 11), some 12, none⟩, []⟩,
    ⟨⟨.faddr 0 (.slot 3), some 13, none⟩, []⟩,
    ⟨⟨.load false 1 (.slot 13), some 14, none⟩, []⟩,
    ⟨⟨.delete .i64 (.slot 12) (.slot 14), none, none⟩, []⟩])
  (.seq (.region true [⟨⟨.mv (.slot 0), some 15, none⟩, []⟩,
    ⟨⟨.nilCheck (.slot 15), some 16, none⟩, []⟩,
    ⟨⟨.faddr 3 (.slot 16), some 17, none⟩, []⟩,
    ⟨⟨.load false 1 (.slot 17), some 18, none⟩, []⟩,
    ⟨⟨.faddr 0 (.slot 3), some 19, none⟩, []⟩,
    ⟨⟨.load false 1 (.slot 19), some 20, none⟩, []⟩,
    ⟨⟨.delete .i64 (.slot 18) (.slot 20), none, none⟩, []⟩])
  (.seq (.seq (.region false [⟨⟨.faddr 1 (.slot 3), some 21, none⟩, []⟩,
    ⟨⟨.load false 1 (.slot 21), some 22, none⟩, []⟩,
    ⟨⟨.len .slice (.slot 22), some 23, none⟩, []⟩,
    ⟨⟨.mv (.const (.int .i64 (.ofNat 0))), some 24, none⟩, []⟩])
  (.block 0 (.loop (.seq (.region false [⟨⟨.bin .lss 3 .num (.slot 24) (.slot 23), some 25, none⟩, []⟩])
   (.seq (.cond (.slot 25)
    .skip
    (.exit 0))
   (.seq (.block 1 (.seq (.region false [⟨⟨.iaddr 1 (.slot 22) (.slot 24), some 26, none⟩, []⟩,
     ⟨⟨.load false 1 (.slot 26), some 27, none⟩, []⟩,
     ⟨⟨.mv (.slot 27), some 6, none⟩, []⟩])
   (.region true [⟨⟨.mv (.slot 0), some 28, none⟩, []⟩,
     ⟨⟨.nilCheck (.slot 28), some 29, none⟩, []⟩,
     ⟨⟨.faddr 2 (.slot 29), some 30, none⟩, []⟩,
     ⟨⟨.load false 1 (.slot 30), some 31, none⟩, []⟩,
     ⟨⟨.mv (.slot 6), some 32, none⟩, []⟩,
     ⟨⟨.lookup .i32 .nilm (.slot 31) (.slot 32) false, some 33, none⟩, []⟩,
     ⟨⟨.faddr 0 (.slot 3), some 34, none⟩, []⟩,
     ⟨⟨.load false 1 (.slot 34), some 35, none⟩, []⟩,
     ⟨⟨.delete .i64 (.slot 33) (.slot 35), none, none⟩, []⟩])))
   (.region false [⟨⟨.bin .add 3 .num (.slot 24) (.const (.int .i64 (.ofNat 1))), some 36, none⟩, []⟩,
     ⟨⟨.mv (.slot 36), some 24, none⟩, []⟩])))))))
  (.seq (.region true [⟨⟨.mv (.slot 0), some 37, none⟩, []⟩,
    ⟨⟨.mv (.slot 0), some 38, none⟩, []⟩,
    ⟨⟨.nilCheck (.slot 38), some 39, none⟩, []⟩,
    ⟨⟨.faddr 5 (.slot 39), some 40, none⟩, []⟩,
    ⟨⟨.load false 1 (.slot 40), some 41, none⟩, []⟩,
    ⟨⟨.mv (.slot 0), some 42, none⟩, []⟩,
    ⟨⟨.nilCheck (.slot 42), some 43, none⟩, []⟩,
    ⟨⟨.faddr 4 (.slot 43), some 44, none⟩, []⟩,
    ⟨⟨.load false 1 (.slot 44), some 45, none⟩, []⟩,
    ⟨⟨.faddr 0 (.slot 3), some 46, none⟩, []⟩,
    ⟨⟨.load false 1 (.slot 46), some 47, none⟩, []⟩,
    ⟨⟨.bslice 1 [(.int .i64 (.ofNat 0))] [(0, 1, (.slot 47))] 1, some 48, none⟩, [⟨.load false 1 (.slot 40), some 41, none⟩, ⟨.load false 1 (.slot 44), some 45, none⟩]⟩,
    ⟨⟨.build [(.int .u8 (.ofNat 0)), (.int .i64 (.ofNat 0)), .nils, .nils] [(0, 1, (.const (.int .u8 (.ofNat 2)))), (1, 1, (.slot 45)), (3, 1, (.slot 48))], some 49, none⟩, []⟩,
    ⟨⟨.bslice 4 [(.int .u8 (.ofNat 0)), (.int .i64 (.ofNat 0)), .nils, .nils] [(0, 4, (.slot 49))] 1, some 50, none⟩, [⟨.load false 1 (.slot 40), some 41, none⟩]⟩,
    ⟨⟨.append 4 64 (.slot 41) (.slot 50), some 51, none⟩, []⟩,
    ⟨⟨.nilCheck (.slot 37), some 52, none⟩, []⟩,
    ⟨⟨.faddr 5 (.slot 52), some 53, none⟩, []⟩,
    ⟨⟨.store 1 (.slot 53) (.slot 51), none, none⟩, []⟩])
  (.seq (.region false [⟨⟨.mv (.const (.int .i64 (.ofNat 0))), some 4, none⟩, []⟩])
  .ret))))))),
  [.tmp 4]⟩
theorem xf46_ok : compFunc Try.prog Try.f46 = some xf46 := by kernel_rfl
/-- (*threshing/base.Base).keep -/
def xf47 : XFunc := ⟨(.seq (.region false [⟨⟨.box (.slot 1), some 3, none⟩, []⟩])
  (.seq (.region false [⟨⟨.faddr 2 (.slot 3), some 4, none⟩, []⟩,
    ⟨⟨.store 1 (.slot 4) (.const (.bool false)), none, none⟩, []⟩])
  (.region true [⟨⟨.mv (.slot 0), some 5, none⟩, []⟩,
    ⟨⟨.nilCheck (.slot 5), some 6, none⟩, []⟩,
    ⟨⟨.faddr 1 (.slot 6), some 7, none⟩, []⟩,
    ⟨⟨.load false 1 (.slot 7), some 8, none⟩, []⟩,
    ⟨⟨.faddr 0 (.slot 3), some 9, none⟩, []⟩,
    ⟨⟨.load false 1 (.slot 9), some 10, none⟩, []⟩,
    ⟨⟨.load true 3 (.slot 3), some 11, none⟩, []⟩,
    ⟨⟨.mapup .i64 (.slot 8) (.slot 10) (.slot 11), none, none⟩, []⟩]))),
  []⟩
theorem xf47_ok : compFunc Try.prog Try.f47 = some xf47 := by kernel_rfl
/-- threshing/subsume.by$1 -/
def xf48 : XFunc := ⟨(.seq (.region false [⟨⟨.mv (.const (.bool false)), some 4, none⟩, []⟩])
  (.seq (.region false [⟨⟨.mv (.slot 0), some 5, none⟩, []⟩,
    ⟨⟨.load false 1 (.slot 1), some 6, none⟩, []⟩,
    ⟨⟨.bin .neq 24 .num (.slot 5) (.slot 6), some 7, none⟩, []⟩,
    ⟨⟨.mv (.slot 7), some 8, none⟩, []⟩,
    ⟨⟨.load false 1 (.slot 2), some 9, some (8, true)⟩, []⟩,
    ⟨⟨.mv (.slot 0), some 10, some (8, true)⟩, []⟩,
    ⟨⟨.lookup .i32 (.bool false) (.slot 9) (.slot 10) false, some 11, some (8, true)⟩, []⟩,
    ⟨⟨.un .not (.slot 11), some 12, some (8, true)⟩, []⟩,
    ⟨⟨.pick (.slot 8) (.slot 12) (.const (.bool false)), some 13, none⟩, []⟩,
    ⟨⟨.mv (.slot 13), some 4, none⟩, []⟩])
  .ret)),
  [.tmp 4]⟩
theorem xf48_ok : compFunc Try.prog Try.f48 = some xf48 := by kernel_rfl
/-- slices.Contains[threshing/api.Clause,threshing/api.Lit] -/
def xf49 : XFunc := ⟨(.seq (.region false [⟨⟨.mv (.const (.bool false)), some 4, none⟩, []⟩])
  (.seq (.region false [⟨⟨.mv (.slot 0), some 5, none⟩, []⟩,
    ⟨⟨.mv (.slot 1), some 6, none⟩, []⟩,
    ⟨⟨.call (.const (.func 64 [] [])) [(.slot 5), (.slot 6)], some 7, none⟩, []⟩,
    ⟨⟨.bin .geq 3 .num (.slot 7) (.const (.int .i64 (.ofNat 0))), some 8, none⟩, []⟩,
    ⟨⟨.mv (.slot 8), some 4, none⟩, []⟩])
  .ret)),
  [.tmp 4]⟩
theorem xf49_ok : compFunc Try.prog Try.f49 = some xf49 := by kernel_rfl
/-- slices.IndexFunc[threshing/api.Clause,threshing/api.Lit] -/
def xf50 : XFunc := ⟨(.seq (.region false [⟨⟨.mv (.const (.int .i64 (.ofNat 0))), some 4, none⟩, []⟩])
  (.seq (.seq (.region false [⟨⟨.mv (.slot 0), some 6, none⟩, []⟩,
    ⟨⟨.len .slice (.slot 6), some 7, none⟩, []⟩,
    ⟨⟨.mv (.const (.int .i64 (.ofNat 0))), some 8, none⟩, []⟩])
  (.block 0 (.loop (.seq (.region false [⟨⟨.bin .lss 3 .num (.slot 8) (.slot 7), some 9, none⟩, []⟩])
   (.seq (.cond (.slot 9)
    .skip
    (.exit 0))
   (.seq (.block 1 (.seq (.region false [⟨⟨.mv (.slot 8), some 10, none⟩, []⟩,
     ⟨⟨.mv (.slot 10), some 5, none⟩, []⟩])
   (.seq (.region false [⟨⟨.mv (.slot 1), some 11, none⟩, []⟩,
     ⟨⟨.mv (.slot 0), some 12, none⟩, []⟩,
     ⟨⟨.mv (.slot 5), some 13, none⟩, []⟩,
     ⟨⟨.iaddr 1 (.slot 12) (.slot 13), some 14, none⟩, []⟩,
     ⟨⟨.load false 1 (.slot 14), some 15, none⟩, []⟩,
     ⟨⟨.call (.slot 11) [(.slot 15)], some 16, none⟩, []⟩])
   (.cond (.slot 16)
    (.seq (.region false [⟨⟨.mv (.slot 5), some 17, none⟩, []⟩,
      ⟨⟨.mv (.slot 17), some 4, none⟩, []⟩])
    .ret)
    .skip))))
   (.region false [⟨⟨.bin .add 3 .num (.slot 8) (.const (.int .i64 (.ofNat 1))), some 18, none⟩, []⟩,
     ⟨⟨.mv (.slot 18), some 8, none⟩, []⟩])))))))
  (.seq (.region false [⟨⟨.mv (.const (.int .i64 (.negSucc 0))), some 4, none⟩, []⟩])
  .ret))),
  [.tmp 4]⟩
theorem xf50_ok : compFunc Try.prog Try.f50 = some xf50 := by kernel_rfl
/-- slices.AppendSeq[[]int64,int64] -/
def xf51 : XFunc := ⟨(.seq (.region false [⟨⟨.box (.slot 0), some 2, none⟩, []⟩,
    ⟨⟨.mv (.const .nils), some 4, none⟩, []⟩])
  (.seq (.seq (.region false [⟨⟨.mv (.slot 1), some 6, none⟩, []⟩])
  (.block 0 (.rangeFunc (.slot 6) [7] (.region false [⟨⟨.mv (.slot 7), some 5, none⟩, []⟩])
  (.block 1 (.region false [⟨⟨.load false 1 (.slot 2), some 8, none⟩, []⟩,
    ⟨⟨.mv (.slot 5), some 9, none⟩, []⟩,
    ⟨⟨.bslice 1 [(.int .i64 (.ofNat 0))] [(0, 1, (.slot 9))] 1, some 10, none⟩, []⟩,
    ⟨⟨.append 1 8 (.slot 8) (.slot 10), some 11, none⟩, []⟩,
    ⟨⟨.store 1 (.slot 2) (.slot 11), none, none⟩, []⟩])))))
  (.seq (.region false [⟨⟨.load false 1 (.slot 2), some 12, none⟩, []⟩,
    ⟨⟨.mv (.slot 12), some 4, none⟩, []⟩])
  .ret))),
  [.tmp 4]⟩
theorem xf51_ok : compFunc Try.prog Try.f51 = some xf51 := by kernel_rfl
/-- slices.pdqsortOrdered[int64] -/
def xf52 : XFunc := ⟨(.seq (.region false [⟨⟨.mv (.const (.bool true)), some 8, none⟩, []⟩])
  (.seq (.region false [⟨⟨.mv (.const (.bool true)), some 9, none⟩, []⟩])
  (.block 0 (.loop (.block 1 (.seq (.region false [⟨⟨.mv (.slot 2), some 19, none⟩, []⟩,
     ⟨⟨.mv (.slot 1), some 20, none⟩, []⟩,
     ⟨⟨.bin .sub 3 .num (.slot 19) (.slot 20), some 21, none⟩, []⟩,
     ⟨⟨.mv (.slot 21), some 10, none⟩, []⟩])
   (.seq (.seq (.region false [⟨⟨.mv (.slot 10), some 22, none⟩, []⟩,
     ⟨⟨.bin .leq 3 .num (.slot 22) (.const (.int .i64 (.ofNat 12))), some 23, none⟩, []⟩])
   (.cond (.slot 23)
    (.seq (.region false [⟨⟨.mv (.slot 0), some 24, none⟩, []⟩,
      ⟨⟨.mv (.slot 1), some 25, none⟩, []⟩,
      ⟨⟨.mv (.slot 2), some 26, none⟩, []⟩,
      ⟨⟨.call (.const (.func 65 [] [])) [(.slot 24), (.slot 25), (.slot 26)], some 27, none⟩, []⟩])
    .ret)
    .skip))
   (.seq (.seq (.region false [⟨⟨.mv (.slot 3), some 28, none⟩, []⟩,
     ⟨⟨.bin .eql 3 .num (.slot 28) (.const (.int .i64 (.ofNat 0))), some 29, none⟩, []⟩])
   (.cond (.slot 29)
    (.seq (.region false [⟨⟨.mv (.slot 0), some 30, none⟩, []⟩,
      ⟨⟨.mv (.slot 1), some 31, none⟩, []⟩,
      ⟨⟨.mv (.slot 2), some 32, none⟩, []⟩,
      ⟨⟨.call (.const (.func 66 [] [])) [(.slot 30), (.slot 31), (.slot 32)], some 33, none⟩, []⟩])
    .ret)
    .skip))
   (.seq (.seq (.region false [⟨⟨.mv (.slot 8), some 34, none⟩, []⟩,
     ⟨⟨.un .not (.slot 34), some 35, none⟩, []⟩])
   (.cond (.slot 35)
    (.seq (.region false [⟨⟨.mv (.slot 0), some 36, none⟩, []⟩,
      ⟨⟨.mv (.slot 1), some 37, none⟩, []⟩,
      ⟨⟨.mv (.slot 2), some 38, none⟩, []⟩,
      ⟨⟨.call (.const (.func 67 [] [])) [(.slot 36), (.slot 37), (.slot 38)], some 39, none⟩, []⟩])
    (.region false [⟨⟨.mv (.slot 3), some 40, none⟩, []⟩,
      ⟨⟨.bin .sub 3 .num (.slot 40) (.const (.int .i64 (.ofNat 1))), some 41, none⟩, []⟩,
      ⟨⟨.mv (.slot 41), some 3, none⟩, []⟩]))
    .skip))
   (.seq (.region false [⟨⟨.mv (.slot 0), some 43, none⟩, []⟩,
     ⟨⟨.mv (.slot 1), some 44, none⟩, []⟩,
     ⟨⟨.mv (.slot 2), some 45, none⟩, []⟩,
     ⟨⟨.call (.const (.func 68 [] [])) [(.slot 43), (.slot 44), (.slot 45)], some 46, none⟩, []⟩,
     ⟨⟨.mv (.slot 46), some 42, none⟩, []⟩,
     ⟨⟨.extract (.slot 42) 0, some 47, none⟩, []⟩,
     ⟨⟨.extract (.slot 42) 1, some 48, none⟩, []⟩,
     ⟨⟨.mv (.slot 47), some 11, none⟩, []⟩,
     ⟨⟨.mv (.slot 48), some 12, none⟩, []⟩])
   (.seq (.seq (.region false [⟨⟨.mv (.slot 12), some 49, none⟩, []⟩,
     ⟨⟨.bin .eql 109 .num (.slot 49) (.const (.int .i64 (.ofNat 2))), some 50, none⟩, []⟩])
   (.cond (.slot 50)
    (.seq (.region false [⟨⟨.mv (.slot 0), some 51, none⟩, []⟩,
      ⟨⟨.mv (.slot 1), some 52, none⟩, []⟩,
      ⟨⟨.mv (.slot 2), some 53, none⟩, []⟩,
      ⟨⟨.call (.const (.func 69 [] [])) [(.slot 51), (.slot 52), (.slot 53)], some 54, none⟩, []⟩])
    (.seq (.region false [⟨⟨.mv (.slot 2), some 55, none⟩, []⟩,
      ⟨⟨.bin .sub 3 .num (.slot 55) (.const (.int .i64 (.ofNat 1))), some 56, none⟩, []⟩,
      ⟨⟨.mv (.slot 11), some 57, none⟩, []⟩,
      ⟨⟨.mv (.slot 1), some 58, none⟩, []⟩,
      ⟨⟨.bin .sub 3 .num (.slot 57) (.slot 58), some 59, none⟩, []⟩,
      ⟨⟨.bin .sub 3 .num (.slot 56) (.slot 59), some 60, none⟩, []⟩,
      ⟨⟨.mv (.slot 60), some 11, none⟩, []⟩])
    (.region false [⟨⟨.mv (.const (.int .i64 (.ofNat 1))), some 12, none⟩, []⟩])))
    .skip))
   (.seq (.seq (.region false [⟨⟨.mv (.slot 8), some 61, none⟩, []⟩,
     ⟨⟨.mv (.slot 61), some 62, none⟩, []⟩,
     ⟨⟨.mv (.slot 9), some 63, some (62, true)⟩, []⟩,
     ⟨⟨.pick (.slot 62) (.slot 63) (.const (.bool false)), some 64, none⟩, []⟩,
     ⟨⟨.mv (.slot 64), some 65, none⟩, []⟩,
     ⟨⟨.mv (.slot 12), some 66, some (65, true)⟩, []⟩,
     ⟨⟨.bin .eql 109 .num (.slot 66) (.const (.int .i64 (.ofNat 1))), some 67, some (65, true)⟩, []⟩,
     ⟨⟨.pick (.slot 65) (.slot 67) (.const (.bool false)), some 68, none⟩, []⟩])
   (.cond (.slot 68)
    (.seq (.region false [⟨⟨.mv (.slot 0), some 69, none⟩, []⟩,
      ⟨⟨.mv (.slot 1), some 70, none⟩, []⟩,
      ⟨⟨.mv (.slot 2), some 71, none⟩, []⟩,
      ⟨⟨.call (.const (.func 70 [] [])) [(.slot 69), (.slot 70), (.slot 71)], some 72, none⟩, []⟩])
    (.cond (.slot 72)
     .ret
     .skip))
    .skip))
   (.seq (.seq (.region true [⟨⟨.mv (.slot 1), some 73, none⟩, []⟩,
     ⟨⟨.bin .gtr 3 .num (.slot 73) (.const (.int .i64 (.ofNat 0))), some 74, none⟩, []⟩,
     ⟨⟨.mv (.slot 74), some 75, none⟩, []⟩,
     ⟨⟨.mv (.slot 0), some 76, some (75, true)⟩, []⟩,
     ⟨⟨.mv (.slot 1), some 77, some (75, true)⟩, []⟩,
     ⟨⟨.bin .sub 3 .num (.slot 77) (.const (.int .i64 (.ofNat 1))), some 78, some (75, true)⟩, []⟩,
     ⟨⟨.iaddr 1 (.slot 76) (.slot 78), some 79, some (75, true)⟩, []⟩,
     ⟨⟨.load false 1 (.slot 79), some 80, some (75, true)⟩, []⟩,
     ⟨⟨.mv (.slot 0), some 81, some (75, true)⟩, []⟩,
     ⟨⟨.mv (.slot 11), some 82, some (75, true)⟩, []⟩,
     ⟨⟨.iaddr 1 (.slot 81) (.slot 82), some 83, some (75, true)⟩, []⟩,
     ⟨⟨.load false 1 (.slot 83), some 84, some (75, true)⟩, []⟩,
     ⟨⟨.call (.const (.func 71 [] [])) [(.slot 80), (.slot 84)], some 85, some (75, true)⟩, []⟩,
     ⟨⟨.un .not (.slot 85), some 86, some (75, true)⟩, []⟩,
     ⟨⟨.pick (.slot 75) (.slot 86) (.const (.bool false)), some 87, none⟩, []⟩])
   (.cond (.slot 87)
    (.seq (.region false [⟨⟨.mv (.slot 0), some 88, none⟩, []⟩,
      ⟨⟨.mv (.slot 1), some 89, none⟩, []⟩,
      ⟨⟨.mv (.slot 2), some 90, none⟩, []⟩,
      ⟨⟨.mv (.slot 11), some 91, none⟩, []⟩,
      ⟨⟨.call (.const (.func 72 [] [])) [(.slot 88), (.slot 89), (.slot 90), (.slot 91)], some 92, none⟩, []⟩,
      ⟨⟨.mv (.slot 92), some 13, none⟩, []⟩])
    (.seq (.region false [⟨⟨.mv (.slot 13), some 93, none⟩, []⟩,
      ⟨⟨.mv (.slot 93), some 1, none⟩, []⟩])
    (.exit 1)))
    .skip))
   (.seq (.region false [⟨⟨.mv (.slot 0), some 95, none⟩, []⟩,
     ⟨⟨.mv (.slot 1), some 96, none⟩, []⟩,
     ⟨⟨.mv (.slot 2), some 97, none⟩, []⟩,
     ⟨⟨.mv (.slot 11), some 98, none⟩, []⟩,
     ⟨⟨.call (.const (.func 73 [] [])) [(.slot 95), (.slot 96), (.slot 97), (.slot 98)], some 99, none⟩, []⟩,
     ⟨⟨.mv (.slot 99), some 94, none⟩, []⟩,
     ⟨⟨.extract (.slot 94) 0, some 100, none⟩, []⟩,
     ⟨⟨.extract (.slot 94) 1, some 101, none⟩, []⟩,
     ⟨⟨.mv (.slot 100), some 14, none⟩, []⟩,
     ⟨⟨.mv (.slot 101), some 15, none⟩, []⟩])
   (.seq (.region false [⟨⟨.mv (.slot 15), some 102, none⟩, []⟩,
     ⟨⟨.mv (.slot 102), some 9, none⟩, []⟩])
   (.seq (.region false [⟨⟨.mv (.slot 14), some 103, none⟩, []⟩,
     ⟨⟨.mv (.slot 1), some 104, none⟩, []⟩,
     ⟨⟨.bin .sub 3 .num (.slot 103) (.slot 104), some 105, none⟩, []⟩,
     ⟨⟨.mv (.slot 2), some 106, none⟩, []⟩,
     ⟨⟨.mv (.slot 14), some 107, none⟩, []⟩,
     ⟨⟨.bin .sub 3 .num (.slot 106) (.slot 107), some 108, none⟩, []⟩,
     ⟨⟨.mv (.slot 105), some 16, none⟩, []⟩,
     ⟨⟨.mv (.slot 108), some 17, none⟩, []⟩])
   (.seq (.region false [⟨⟨.mv (.slot 10), some 109, none⟩, []⟩,
     ⟨⟨.bin .quo 3 .num (.slot 109) (.const (.int .i64 (.ofNat 8))), some 110, none⟩, []⟩,
     ⟨⟨.mv (.slot 110), some 18, none⟩, []⟩])
   (.seq (.region false [⟨⟨.mv (.slot 16), some 111, none⟩, []⟩,
     ⟨⟨.mv (.slot 17), some 112, none⟩, []⟩,
     ⟨⟨.bin .lss 3 .num (.slot 111) (.slot 112), some 113, none⟩, []⟩])
   (.cond (.slot 113)
    (.seq (.region false [⟨⟨.mv (.slot 16), some 114, none⟩, []⟩,
      ⟨⟨.mv (.slot 18), some 115, none⟩, []⟩,
      ⟨⟨.bin .geq 3 .num (.slot 114) (.slot 115), some 116, none⟩, []⟩,
      ⟨⟨.mv (.slot 116), some 8, none⟩, []⟩])
    (.seq (.region false [⟨⟨.mv (.slot 0), some 117, none⟩, []⟩,
      ⟨⟨.mv (.slot 1), some 118, none⟩, []⟩,
      ⟨⟨.mv (.slot 14), some 119, none⟩, []⟩,
      ⟨⟨.mv (.slot 3), some 120, none⟩, []⟩,
      ⟨⟨.call (.const (.func 52 [] [])) [(.slot 117), (.slot 118), (.slot 119), (.slot 120)], some 121, none⟩, []⟩])
    (.region false [⟨⟨.mv (.slot 14), some 122, none⟩, []⟩,
      ⟨⟨.bin .add 3 .num (.slot 122) (.const (.int .i64 (.ofNat 1))), some 123, none⟩, []⟩,
      ⟨⟨.mv (.slot 123), some 1, none⟩, []⟩])))
    (.seq (.region false [⟨⟨.mv (.slot 17), some 124, none⟩, []⟩,
      ⟨⟨.mv (.slot 18), some 125, none⟩, []⟩,
      ⟨⟨.bin .geq 3 .num (.slot 124) (.slot 125), some 126, none⟩, []⟩,
      ⟨⟨.mv (.slot 126), some 8, none⟩, []⟩])
    (.seq (.region false [⟨⟨.mv (.slot 0), some 127, none⟩, []⟩,
      ⟨⟨.mv (.slot 14), some 128, none⟩, []⟩,
      ⟨⟨.bin .add 3 .num (.slot 128) (.const (.int .i64 (.ofNat 1))), some 129, none⟩, []⟩,
      ⟨⟨.mv (.slot 2), some 130, none⟩, []⟩,
      ⟨⟨.mv (.slot 3), some 131, none⟩, []⟩,
      ⟨⟨.call (.const (.func 52 [] [])) [(.slot 127), (.slot 129), (.slot 130), (.slot 131)], some 132, none⟩, []⟩])
    (.region false [⟨⟨.mv (.slot 14), some 133, none⟩, []⟩,
      ⟨⟨.mv (.slot 133), some 2, none⟩, []⟩])))))))))))))))))))))),
  []⟩
theorem xf52_ok : compFunc Try.prog Try.f52 = some xf52 := by kernel_rfl
end Go.Proofs.Ytecpenjafajfcaa

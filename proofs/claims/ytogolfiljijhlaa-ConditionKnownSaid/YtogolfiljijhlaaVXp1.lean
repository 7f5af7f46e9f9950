/- The functions of the program in X's code, printed by a program of ours; each is what the program's own is turned to. -/
import Derived.Test.YtogolfiljijhlaaProg
import Derived.Test.YtogolfiljijhlaaW0
import Derived.KernelRfl
namespace Go.Proofs.Ytogolfiljijhlaa
open Go.Xr
/- slices.Collect[threshing/api.Lit] -/
def r20_0 : List XLine := [⟨⟨.mv (.const .nils), some 2, none⟩, []⟩]
def r20_1 : List XLine := [⟨⟨.mv (.slot 0), some 3, none⟩, []⟩,
  ⟨⟨.call (.const (.func 45 [] [])) [(.const .nils), (.slot 3)], some 4, none⟩, []⟩,
  ⟨⟨.mv (.slot 4), some 2, none⟩, []⟩]
def xf20 : XFunc := ⟨(.seq (.region false r20_0)
  (.seq (.region false r20_1)
  .ret)),
  [.tmp 2]⟩
theorem xf20_ok : compFunc Try.prog Try.f20 = some xf20 := by kernel_rfl
/- maps.Keys[threshing/condition.set,threshing/api.Lit,bool] -/
def r21_0 : List XLine := [⟨⟨.box (.slot 0), some 1, none⟩, []⟩,
  ⟨⟨.mv (.const .nilf), some 2, none⟩, []⟩]
def r21_1 : List XLine := [⟨⟨.mkfunc 46 [] [(.slot 1)], some 3, none⟩, []⟩,
  ⟨⟨.mv (.slot 3), some 2, none⟩, []⟩]
def xf21 : XFunc := ⟨(.seq (.region false r21_0)
  (.seq (.region false r21_1)
  .ret)),
  [.tmp 2]⟩
theorem xf21_ok : compFunc Try.prog Try.f21 = some xf21 := by kernel_rfl
/- (*threshing/base.Base).Weaken -/
def r22_0 : List XLine := [⟨⟨.mv (.const (.int .i64 (.ofNat 0))), some 6, none⟩, []⟩]
def r22_1 : List XLine := [⟨⟨.mv (.slot 0), some 10, none⟩, []⟩,
  ⟨⟨.bin .eql 22 .ptr (.slot 10) (.const .nilp), some 11, none⟩, []⟩]
def r22_2 : List XLine := [⟨⟨.mv (.const (.int .i64 (.ofNat 1))), some 6, none⟩, []⟩]
def r22_3 : List XLine := [⟨⟨.mv (.slot 0), some 13, none⟩, []⟩,
  ⟨⟨.nilCheck (.slot 13), some 14, none⟩, []⟩,
  ⟨⟨.faddr 1 (.slot 14), some 15, none⟩, []⟩,
  ⟨⟨.load false 1 (.slot 15), some 16, none⟩, []⟩,
  ⟨⟨.mv (.slot 1), some 17, none⟩, []⟩,
  ⟨⟨.lookup .i64 (.agg [(.int .i64 (.ofNat 0)), .nils, (.bool false)]) (.slot 16) (.slot 17) true, some 18, none⟩, []⟩,
  ⟨⟨.mv (.slot 18), some 12, none⟩, []⟩,
  ⟨⟨.extract (.slot 12) 0, some 19, none⟩, []⟩,
  ⟨⟨.extract (.slot 12) 1, some 20, none⟩, []⟩,
  ⟨⟨.alloc [(.int .i64 (.ofNat 0)), .nils, (.bool false)], some 7, none⟩, []⟩,
  ⟨⟨.store 3 (.slot 7) (.slot 19), none, none⟩, []⟩,
  ⟨⟨.mv (.slot 20), some 8, none⟩, []⟩]
def r22_4 : List XLine := [⟨⟨.mv (.slot 8), some 22, none⟩, []⟩,
  ⟨⟨.un .not (.slot 22), some 23, none⟩, []⟩,
  ⟨⟨.mv (.slot 23), some 21, none⟩, []⟩]
def r22_5 : List XLine := [⟨⟨.mv (.const (.int .i64 (.ofNat 5))), some 6, none⟩, []⟩]
def r22_6 : List XLine := [⟨⟨.faddr 2 (.slot 7), some 25, none⟩, []⟩,
  ⟨⟨.load false 1 (.slot 25), some 26, none⟩, []⟩,
  ⟨⟨.mv (.slot 26), some 24, none⟩, []⟩]
def r22_7 : List XLine := [⟨⟨.mv (.const (.int .i64 (.ofNat 7))), some 6, none⟩, []⟩]
def r22_8 : List XLine := [⟨⟨.mv (.slot 0), some 28, none⟩, []⟩,
  ⟨⟨.mv (.slot 2), some 29, none⟩, []⟩,
  ⟨⟨.call (.const (.func 27 [] [])) [(.slot 28), (.slot 29)], some 30, none⟩, []⟩,
  ⟨⟨.un .not (.slot 30), some 31, none⟩, []⟩,
  ⟨⟨.mv (.slot 31), some 27, none⟩, []⟩]
def r22_9 : List XLine := [⟨⟨.mv (.const (.int .i64 (.ofNat 4))), some 6, none⟩, []⟩]
def r22_10 : List XLine := [⟨⟨.mv (.slot 2), some 33, none⟩, []⟩,
  ⟨⟨.len .slice (.slot 33), some 34, none⟩, []⟩,
  ⟨⟨.bin .eql 3 .num (.slot 34) (.const (.int .i64 (.ofNat 0))), some 35, none⟩, []⟩,
  ⟨⟨.mv (.slot 35), some 32, none⟩, []⟩]
def r22_11 : List XLine := [⟨⟨.mv (.slot 2), some 36, none⟩, []⟩,
  ⟨⟨.call (.const (.func 47 [] [])) [(.slot 36)], some 37, none⟩, []⟩,
  ⟨⟨.mv (.slot 37), some 32, none⟩, []⟩]
def r22_12 : List XLine := [⟨⟨.faddr 1 (.slot 7), some 38, none⟩, []⟩,
  ⟨⟨.load false 1 (.slot 38), some 39, none⟩, []⟩,
  ⟨⟨.mv (.slot 2), some 40, none⟩, []⟩,
  ⟨⟨.iaddr 1 (.slot 40) (.const (.int .i64 (.ofNat 0))), some 41, none⟩, []⟩,
  ⟨⟨.load false 1 (.slot 41), some 42, none⟩, []⟩,
  ⟨⟨.call (.const (.func 41 [] [])) [(.slot 39), (.slot 42)], some 43, none⟩, []⟩,
  ⟨⟨.un .not (.slot 43), some 44, none⟩, []⟩,
  ⟨⟨.mv (.slot 44), some 32, none⟩, []⟩]
def r22_13 : List XLine := [⟨⟨.mv (.const (.int .i64 (.ofNat 2))), some 6, none⟩, []⟩]
def r22_14 : List XLine := [⟨⟨.mv (.slot 0), some 45, none⟩, []⟩,
  ⟨⟨.load true 3 (.slot 7), some 46, none⟩, []⟩,
  ⟨⟨.call (.const (.func 48 [] [])) [(.slot 45), (.slot 46)], some 47, none⟩, []⟩,
  ⟨⟨.mv (.slot 47), some 9, none⟩, []⟩]
def r22_15 : List XLine := [⟨⟨.mv (.slot 9), some 48, none⟩, []⟩,
  ⟨⟨.bin .neq 27 .num (.slot 48) (.const (.int .i64 (.ofNat 0))), some 49, none⟩, []⟩]
def r22_16 : List XLine := [⟨⟨.mv (.slot 9), some 50, none⟩, []⟩,
  ⟨⟨.mv (.slot 50), some 6, none⟩, []⟩]
def r22_17 : List XLine := [⟨⟨.mv (.slot 0), some 51, none⟩, []⟩,
  ⟨⟨.mv (.slot 0), some 52, none⟩, []⟩,
  ⟨⟨.nilCheck (.slot 52), some 53, none⟩, []⟩,
  ⟨⟨.faddr 6 (.slot 53), some 54, none⟩, []⟩,
  ⟨⟨.load false 1 (.slot 54), some 55, none⟩, []⟩,
  ⟨⟨.mv (.slot 2), some 56, none⟩, []⟩,
  ⟨⟨.faddr 1 (.slot 7), some 58, none⟩, []⟩,
  ⟨⟨.load false 1 (.slot 58), some 59, none⟩, []⟩,
  ⟨⟨.call (.const (.func 25 [] [])) [(.slot 56)], some 57, none⟩, [⟨.load false 1 (.slot 54), some 55, none⟩, ⟨.load false 1 (.slot 58), some 59, none⟩]⟩,
  ⟨⟨.call (.const (.func 25 [] [])) [(.slot 59)], some 60, none⟩, [⟨.load false 1 (.slot 54), some 55, none⟩]⟩,
  ⟨⟨.build [.nils, .nils] [(0, 1, (.slot 57)), (1, 1, (.slot 60))], some 61, none⟩, []⟩,
  ⟨⟨.bslice 2 [.nils, .nils] [(0, 2, (.slot 61))] 1, some 62, none⟩, [⟨.load false 1 (.slot 54), some 55, none⟩]⟩,
  ⟨⟨.append 2 48 (.slot 55) (.slot 62), some 63, none⟩, []⟩,
  ⟨⟨.nilCheck (.slot 51), some 64, none⟩, []⟩,
  ⟨⟨.faddr 6 (.slot 64), some 65, none⟩, []⟩,
  ⟨⟨.store 1 (.slot 65) (.slot 63), none, none⟩, []⟩]
def r22_18 : List XLine := [⟨⟨.mv (.slot 0), some 66, none⟩, []⟩,
  ⟨⟨.mv (.slot 1), some 67, none⟩, []⟩,
  ⟨⟨.mv (.slot 2), some 68, none⟩, []⟩,
  ⟨⟨.call (.const (.func 25 [] [])) [(.slot 68)], some 69, none⟩, []⟩,
  ⟨⟨.build [(.int .u8 (.ofNat 0)), (.int .i64 (.ofNat 0)), (.int .i64 (.ofNat 0)), (.bool false), .nils, .nils] [(0, 1, (.const (.int .u8 (.ofNat 5)))), (1, 1, (.slot 67)), (4, 1, (.slot 69))], some 70, none⟩, []⟩,
  ⟨⟨.call (.const (.func 31 [] [])) [(.slot 66), (.slot 70)], some 71, none⟩, []⟩,
  ⟨⟨.mv (.slot 71), some 6, none⟩, []⟩]
def xf22 : XFunc := ⟨(.seq (.region false r22_0)
  (.seq (.seq (.region false r22_1)
  (.cond (.slot 11)
  (.seq (.region false r22_2)
  .ret)
  .skip))
  (.seq (.region false r22_3)
  (.seq (.block 0 (.seq (.region false r22_4)
  (.cond (.slot 21)
  (.seq (.region false r22_5)
  .ret)
  (.seq (.region false r22_6)
  (.cond (.slot 24)
  (.seq (.region false r22_7)
  .ret)
  (.seq (.region false r22_8)
  (.cond (.slot 27)
  (.seq (.region false r22_9)
  .ret)
  (.seq (.seq (.region false r22_10)
  (.cond (.slot 32)
  .skip
  (.seq (.region false r22_11)
  (.cond (.slot 32)
  .skip
  (.region true r22_12)))))
  (.cond (.slot 32)
  (.seq (.region false r22_13)
  .ret)
  .skip)))))))))
  (.seq (.seq (.region false r22_14)
  (.seq (.region false r22_15)
  (.cond (.slot 49)
  (.seq (.region false r22_16)
  .ret)
  .skip)))
  (.seq (.region true r22_17)
  (.seq (.region false r22_18)
  .ret))))))),
  [.tmp 6]⟩
theorem xf22_ok : compFunc Try.prog Try.f22 = some xf22 := by kernel_rfl
/- slices.Concat[threshing/api.Clause,threshing/api.Lit] -/
def r23_0 : List XLine := [⟨⟨.mv (.const .nils), some 2, none⟩, []⟩]
def r23_1 : List XLine := [⟨⟨.mv (.const (.int .i64 (.ofNat 0))), some 3, none⟩, []⟩]
def r23_2 : List XLine := [⟨⟨.mv (.slot 0), some 9, none⟩, []⟩,
  ⟨⟨.len .slice (.slot 9), some 10, none⟩, []⟩,
  ⟨⟨.mv (.const (.int .i64 (.ofNat 0))), some 11, none⟩, []⟩]
def r23_3 : List XLine := [⟨⟨.bin .lss 3 .num (.slot 11) (.slot 10), some 12, none⟩, []⟩]
def r23_4 : List XLine := [⟨⟨.iaddr 1 (.slot 9) (.slot 11), some 13, none⟩, []⟩,
  ⟨⟨.load false 1 (.slot 13), some 14, none⟩, []⟩,
  ⟨⟨.mv (.slot 14), some 5, none⟩, []⟩]
def r23_5 : List XLine := [⟨⟨.mv (.slot 3), some 15, none⟩, []⟩,
  ⟨⟨.mv (.slot 5), some 16, none⟩, []⟩,
  ⟨⟨.len .slice (.slot 16), some 17, none⟩, []⟩,
  ⟨⟨.bin .add 3 .num (.slot 15) (.slot 17), some 18, none⟩, []⟩,
  ⟨⟨.mv (.slot 18), some 3, none⟩, []⟩]
def r23_6 : List XLine := [⟨⟨.mv (.slot 3), some 19, none⟩, []⟩,
  ⟨⟨.bin .lss 3 .num (.slot 19) (.const (.int .i64 (.ofNat 0))), some 20, none⟩, []⟩]
def r23_7 : List XLine := [⟨⟨.mkif 9 (.const (.str ⟨⟨[108, 101, 110, 32, 111, 117, 116, 32, 111, 102, 32, 114, 97, 110, 103, 101]⟩⟩)), some 21, none⟩, []⟩,
  ⟨⟨.bad, none, none⟩, []⟩]
def r23_8 : List XLine := [⟨⟨.bin .add 3 .num (.slot 11) (.const (.int .i64 (.ofNat 1))), some 22, none⟩, []⟩,
  ⟨⟨.mv (.slot 22), some 11, none⟩, []⟩]
def r23_9 : List XLine := [⟨⟨.mv (.slot 3), some 23, none⟩, []⟩,
  ⟨⟨.call (.const (.func 49 [] [])) [(.const .nils), (.slot 23)], some 24, none⟩, []⟩,
  ⟨⟨.mv (.slot 24), some 6, none⟩, []⟩]
def r23_10 : List XLine := [⟨⟨.mv (.slot 0), some 25, none⟩, []⟩,
  ⟨⟨.len .slice (.slot 25), some 26, none⟩, []⟩,
  ⟨⟨.mv (.const (.int .i64 (.ofNat 0))), some 27, none⟩, []⟩]
def r23_11 : List XLine := [⟨⟨.bin .lss 3 .num (.slot 27) (.slot 26), some 28, none⟩, []⟩]
def r23_12 : List XLine := [⟨⟨.iaddr 1 (.slot 25) (.slot 27), some 29, none⟩, []⟩,
  ⟨⟨.load false 1 (.slot 29), some 30, none⟩, []⟩,
  ⟨⟨.mv (.slot 30), some 8, none⟩, []⟩]
def r23_13 : List XLine := [⟨⟨.mv (.slot 6), some 31, none⟩, []⟩,
  ⟨⟨.mv (.slot 8), some 32, none⟩, []⟩,
  ⟨⟨.append 1 4 (.slot 31) (.slot 32), some 33, none⟩, []⟩,
  ⟨⟨.mv (.slot 33), some 6, none⟩, []⟩]
def r23_14 : List XLine := [⟨⟨.bin .add 3 .num (.slot 27) (.const (.int .i64 (.ofNat 1))), some 34, none⟩, []⟩,
  ⟨⟨.mv (.slot 34), some 27, none⟩, []⟩]
def r23_15 : List XLine := [⟨⟨.mv (.slot 6), some 35, none⟩, []⟩,
  ⟨⟨.mv (.slot 35), some 2, none⟩, []⟩]
def xf23 : XFunc := ⟨(.seq (.region false r23_0)
  (.seq (.region false r23_1)
  (.seq (.seq (.region false r23_2)
  (.block 0 (.loop (.seq (.region false r23_3)
  (.seq (.cond (.slot 12)
  .skip
  (.exit 0))
  (.seq (.block 1 (.seq (.region false r23_4)
  (.seq (.region false r23_5)
  (.seq (.region false r23_6)
  (.cond (.slot 20)
  (.region false r23_7)
  .skip)))))
  (.region false r23_8)))))))
  (.seq (.region false r23_9)
  (.seq (.seq (.region false r23_10)
  (.block 2 (.loop (.seq (.region false r23_11)
  (.seq (.cond (.slot 28)
  .skip
  (.exit 2))
  (.seq (.block 3 (.seq (.region false r23_12)
  (.region false r23_13)))
  (.region false r23_14)))))))
  (.seq (.region false r23_15)
  .ret)))))),
  [.tmp 2]⟩
theorem xf23_ok : compFunc Try.prog Try.f23 = some xf23 := by kernel_rfl
/- slices.Clone[[]threshing/api.Witness,threshing/api.Witness] -/
def r24_0 : List XLine := [⟨⟨.mv (.const .nils), some 2, none⟩, []⟩]
def r24_1 : List XLine := [⟨⟨.mv (.slot 0), some 3, none⟩, []⟩,
  ⟨⟨.bin .eql 33 .slice (.slot 3) (.const .nils), some 4, none⟩, []⟩]
def r24_2 : List XLine := [⟨⟨.mv (.const .nils), some 2, none⟩, []⟩]
def r24_3 : List XLine := [⟨⟨.bslice 2 [] [] 0, some 5, none⟩, []⟩,
  ⟨⟨.mv (.slot 0), some 6, none⟩, []⟩,
  ⟨⟨.append 2 48 (.slot 5) (.slot 6), some 7, none⟩, []⟩,
  ⟨⟨.mv (.slot 7), some 2, none⟩, []⟩]
def xf24 : XFunc := ⟨(.seq (.region false r24_0)
  (.seq (.seq (.region false r24_1)
  (.cond (.slot 4)
  (.seq (.region false r24_2)
  .ret)
  .skip))
  (.seq (.region false r24_3)
  .ret))),
  [.tmp 2]⟩
theorem xf24_ok : compFunc Try.prog Try.f24 = some xf24 := by kernel_rfl
/- slices.Clone[threshing/api.Clause,threshing/api.Lit] -/
def r25_0 : List XLine := [⟨⟨.mv (.const .nils), some 2, none⟩, []⟩]
def r25_1 : List XLine := [⟨⟨.mv (.slot 0), some 3, none⟩, []⟩,
  ⟨⟨.bin .eql 26 .slice (.slot 3) (.const .nils), some 4, none⟩, []⟩]
def r25_2 : List XLine := [⟨⟨.mv (.const .nils), some 2, none⟩, []⟩]
def r25_3 : List XLine := [⟨⟨.bslice 1 [] [] 0, some 5, none⟩, []⟩,
  ⟨⟨.mv (.slot 0), some 6, none⟩, []⟩,
  ⟨⟨.append 1 4 (.slot 5) (.slot 6), some 7, none⟩, []⟩,
  ⟨⟨.mv (.slot 7), some 2, none⟩, []⟩]
def xf25 : XFunc := ⟨(.seq (.region false r25_0)
  (.seq (.seq (.region false r25_1)
  (.cond (.slot 4)
  (.seq (.region false r25_2)
  .ret)
  .skip))
  (.seq (.region false r25_3)
  .ret))),
  [.tmp 2]⟩
theorem xf25_ok : compFunc Try.prog Try.f25 = some xf25 := by kernel_rfl
/- (*threshing/base.Base).full -/
def r26_0 : List XLine := [⟨⟨.mv (.const (.bool false)), some 2, none⟩, []⟩]
def r26_1 : List XLine := [⟨⟨.mv (.slot 0), some 3, none⟩, []⟩,
  ⟨⟨.nilCheck (.slot 3), some 4, none⟩, []⟩,
  ⟨⟨.faddr 5 (.slot 4), some 5, none⟩, []⟩,
  ⟨⟨.load false 1 (.slot 5), some 6, none⟩, []⟩,
  ⟨⟨.len .slice (.slot 6), some 7, none⟩, []⟩,
  ⟨⟨.bin .geq 3 .num (.slot 7) (.const (.int .i64 (.ofNat 4194304))), some 8, none⟩, []⟩,
  ⟨⟨.mv (.slot 8), some 2, none⟩, []⟩]
def xf26 : XFunc := ⟨(.seq (.region false r26_0)
  (.seq (.region false r26_1)
  .ret)),
  [.tmp 2]⟩
theorem xf26_ok : compFunc Try.prog Try.f26 = some xf26 := by kernel_rfl
/- (*threshing/base.Base).right -/
def r27_0 : List XLine := [⟨⟨.box (.slot 0), some 2, none⟩, []⟩,
  ⟨⟨.mv (.const (.bool false)), some 4, none⟩, []⟩]
def r27_1 : List XLine := [⟨⟨.mv (.slot 1), some 5, none⟩, []⟩,
  ⟨⟨.mkfunc 51 [] [(.slot 2)], some 6, none⟩, []⟩,
  ⟨⟨.call (.const (.func 50 [] [])) [(.slot 5), (.slot 6)], some 7, none⟩, []⟩,
  ⟨⟨.un .not (.slot 7), some 8, none⟩, []⟩,
  ⟨⟨.mv (.slot 8), some 4, none⟩, []⟩]
def xf27 : XFunc := ⟨(.seq (.region false r27_0)
  (.seq (.region false r27_1)
  .ret)),
  [.tmp 4]⟩
theorem xf27_ok : compFunc Try.prog Try.f27 = some xf27 := by kernel_rfl
/- (*threshing/base.Base).follows -/
def r28_0 : List XLine := [⟨⟨.mv (.const (.int .i64 (.ofNat 0))), some 6, none⟩, []⟩]
def r28_1 : List XLine := [⟨⟨.mkmap .i32, some 18, none⟩, []⟩,
  ⟨⟨.alloc [.nilm], some 7, none⟩, []⟩,
  ⟨⟨.store 1 (.slot 7) (.slot 18), none, none⟩, []⟩]
def r28_2 : List XLine := [⟨⟨.mkfunc 53 [] [(.slot 7)], some 19, none⟩, []⟩,
  ⟨⟨.mv (.slot 19), some 8, none⟩, []⟩]
def r28_3 : List XLine := [⟨⟨.mv (.slot 1), some 20, none⟩, []⟩,
  ⟨⟨.len .slice (.slot 20), some 21, none⟩, []⟩,
  ⟨⟨.mv (.const (.int .i64 (.ofNat 0))), some 22, none⟩, []⟩]
def r28_4 : List XLine := [⟨⟨.bin .lss 3 .num (.slot 22) (.slot 21), some 23, none⟩, []⟩]
def r28_5 : List XLine := [⟨⟨.iaddr 1 (.slot 20) (.slot 22), some 24, none⟩, []⟩,
  ⟨⟨.load false 1 (.slot 24), some 25, none⟩, []⟩,
  ⟨⟨.mv (.slot 25), some 10, none⟩, []⟩]
def r28_6 : List XLine := [⟨⟨.mv (.slot 8), some 26, none⟩, []⟩,
  ⟨⟨.mv (.slot 10), some 27, none⟩, []⟩,
  ⟨⟨.call (.slot 26) [(.slot 27)], some 28, none⟩, []⟩]
def r28_7 : List XLine := [⟨⟨.mv (.const (.int .i64 (.ofNat 0))), some 6, none⟩, []⟩]
def r28_8 : List XLine := [⟨⟨.bin .add 3 .num (.slot 22) (.const (.int .i64 (.ofNat 1))), some 29, none⟩, []⟩,
  ⟨⟨.mv (.slot 29), some 22, none⟩, []⟩]
def r28_9 : List XLine := [⟨⟨.mv (.slot 2), some 30, none⟩, []⟩,
  ⟨⟨.len .slice (.slot 30), some 31, none⟩, []⟩,
  ⟨⟨.mv (.const (.int .i64 (.ofNat 0))), some 32, none⟩, []⟩]
def r28_10 : List XLine := [⟨⟨.bin .lss 3 .num (.slot 32) (.slot 31), some 33, none⟩, []⟩]
def r28_11 : List XLine := [⟨⟨.iaddr 1 (.slot 30) (.slot 32), some 34, none⟩, []⟩,
  ⟨⟨.load false 1 (.slot 34), some 35, none⟩, []⟩,
  ⟨⟨.mv (.slot 35), some 12, none⟩, []⟩]
def r28_12 : List XLine := [⟨⟨.mv (.slot 0), some 37, none⟩, []⟩,
  ⟨⟨.nilCheck (.slot 37), some 38, none⟩, []⟩,
  ⟨⟨.faddr 1 (.slot 38), some 39, none⟩, []⟩,
  ⟨⟨.load false 1 (.slot 39), some 40, none⟩, []⟩,
  ⟨⟨.mv (.slot 12), some 41, none⟩, []⟩,
  ⟨⟨.lookup .i64 (.agg [(.int .i64 (.ofNat 0)), .nils, (.bool false)]) (.slot 40) (.slot 41) true, some 42, none⟩, []⟩,
  ⟨⟨.mv (.slot 42), some 36, none⟩, []⟩,
  ⟨⟨.extract (.slot 36) 0, some 43, none⟩, []⟩,
  ⟨⟨.extract (.slot 36) 1, some 44, none⟩, []⟩,
  ⟨⟨.alloc [(.int .i64 (.ofNat 0)), .nils, (.bool false)], some 13, none⟩, []⟩,
  ⟨⟨.store 3 (.slot 13) (.slot 43), none, none⟩, []⟩,
  ⟨⟨.mv (.slot 44), some 14, none⟩, []⟩]
def r28_13 : List XLine := [⟨⟨.mv (.slot 14), some 45, none⟩, []⟩,
  ⟨⟨.un .not (.slot 45), some 46, none⟩, []⟩]
def r28_14 : List XLine := [⟨⟨.mv (.const (.int .i64 (.ofNat 60))), some 6, none⟩, []⟩]
def r28_15 : List XLine := [⟨⟨.mv (.const (.int .i32 (.ofNat 0))), some 15, none⟩, []⟩]
def r28_16 : List XLine := [⟨⟨.faddr 1 (.slot 13), some 47, none⟩, []⟩,
  ⟨⟨.load false 1 (.slot 47), some 48, none⟩, []⟩,
  ⟨⟨.len .slice (.slot 48), some 49, none⟩, []⟩,
  ⟨⟨.mv (.const (.int .i64 (.ofNat 0))), some 50, none⟩, []⟩]
def r28_17 : List XLine := [⟨⟨.bin .lss 3 .num (.slot 50) (.slot 49), some 51, none⟩, []⟩]
def r28_18 : List XLine := [⟨⟨.iaddr 1 (.slot 48) (.slot 50), some 52, none⟩, []⟩,
  ⟨⟨.load false 1 (.slot 52), some 53, none⟩, []⟩,
  ⟨⟨.mv (.slot 53), some 17, none⟩, []⟩]
def r28_19 : List XLine := [⟨⟨.load false 1 (.slot 7), some 56, none⟩, []⟩,
  ⟨⟨.mv (.slot 17), some 57, none⟩, []⟩,
  ⟨⟨.lookup .i32 (.bool false) (.slot 56) (.slot 57) false, some 58, none⟩, []⟩,
  ⟨⟨.mv (.slot 58), some 55, none⟩, []⟩]
def r28_20 : List XLine := [⟨⟨.mv (.slot 17), some 59, none⟩, []⟩,
  ⟨⟨.mv (.slot 15), some 60, none⟩, []⟩,
  ⟨⟨.bin .eql 24 .num (.slot 59) (.slot 60), some 61, none⟩, []⟩,
  ⟨⟨.mv (.slot 61), some 55, none⟩, []⟩]
def r28_21 : List XLine := [⟨⟨.mv (.slot 15), some 63, none⟩, []⟩,
  ⟨⟨.bin .neq 24 .num (.slot 63) (.const (.int .i32 (.ofNat 0))), some 64, none⟩, []⟩,
  ⟨⟨.mv (.slot 64), some 62, none⟩, []⟩]
def r28_22 : List XLine := [⟨⟨.mv (.const (.int .i64 (.ofNat 60))), some 6, none⟩, []⟩]
def r28_23 : List XLine := [⟨⟨.mv (.slot 17), some 54, none⟩, []⟩,
  ⟨⟨.mv (.slot 54), some 15, none⟩, []⟩]
def r28_24 : List XLine := [⟨⟨.bin .add 3 .num (.slot 50) (.const (.int .i64 (.ofNat 1))), some 65, none⟩, []⟩,
  ⟨⟨.mv (.slot 65), some 50, none⟩, []⟩]
def r28_25 : List XLine := [⟨⟨.mv (.slot 15), some 67, none⟩, []⟩,
  ⟨⟨.bin .eql 24 .num (.slot 67) (.const (.int .i32 (.ofNat 0))), some 68, none⟩, []⟩,
  ⟨⟨.mv (.slot 68), some 66, none⟩, []⟩]
def r28_26 : List XLine := [⟨⟨.mv (.const (.int .i64 (.ofNat 0))), some 6, none⟩, []⟩]
def r28_27 : List XLine := [⟨⟨.load false 1 (.slot 7), some 70, none⟩, []⟩,
  ⟨⟨.mv (.slot 15), some 71, none⟩, []⟩,
  ⟨⟨.un .neg (.slot 71), some 72, none⟩, []⟩,
  ⟨⟨.lookup .i32 (.bool false) (.slot 70) (.slot 72) false, some 73, none⟩, []⟩,
  ⟨⟨.mv (.slot 73), some 69, none⟩, []⟩]
def r28_28 : List XLine := [⟨⟨.mv (.const (.int .i64 (.ofNat 60))), some 6, none⟩, []⟩]
def r28_29 : List XLine := [⟨⟨.mv (.slot 8), some 74, none⟩, []⟩,
  ⟨⟨.mv (.slot 15), some 75, none⟩, []⟩,
  ⟨⟨.un .neg (.slot 75), some 76, none⟩, []⟩,
  ⟨⟨.call (.slot 74) [(.slot 76)], some 77, none⟩, []⟩]
def r28_30 : List XLine := [⟨⟨.bin .add 3 .num (.slot 32) (.const (.int .i64 (.ofNat 1))), some 78, none⟩, []⟩,
  ⟨⟨.mv (.slot 78), some 32, none⟩, []⟩]
def r28_31 : List XLine := [⟨⟨.mv (.const (.int .i64 (.ofNat 61))), some 6, none⟩, []⟩]
def xf28 : XFunc := ⟨(.seq (.region false r28_0)
  (.seq (.region false r28_1)
  (.seq (.region false r28_2)
  (.seq (.seq (.region false r28_3)
  (.block 0 (.loop (.seq (.region false r28_4)
  (.seq (.cond (.slot 23)
  .skip
  (.exit 0))
  (.seq (.block 1 (.seq (.region false r28_5)
  (.seq (.region false r28_6)
  (.cond (.slot 28)
  (.seq (.region false r28_7)
  .ret)
  .skip))))
  (.region false r28_8)))))))
  (.seq (.seq (.region false r28_9)
  (.block 2 (.loop (.seq (.region false r28_10)
  (.seq (.cond (.slot 33)
  .skip
  (.exit 2))
  (.seq (.block 3 (.seq (.region false r28_11)
  (.seq (.region false r28_12)
  (.seq (.seq (.region false r28_13)
  (.cond (.slot 46)
  (.seq (.region false r28_14)
  .ret)
  .skip))
  (.seq (.region false r28_15)
  (.seq (.seq (.region false r28_16)
  (.block 4 (.loop (.seq (.region false r28_17)
  (.seq (.cond (.slot 51)
  .skip
  (.exit 4))
  (.seq (.block 5 (.seq (.region false r28_18)
  (.block 6 (.seq (.seq (.region false r28_19)
  (.cond (.slot 55)
  .skip
  (.region false r28_20)))
  (.cond (.slot 55)
  .skip
  (.seq (.region false r28_21)
  (.cond (.slot 62)
  (.seq (.region false r28_22)
  .ret)
  (.region false r28_23))))))))
  (.region false r28_24)))))))
  (.seq (.block 7 (.seq (.region false r28_25)
  (.cond (.slot 66)
  (.seq (.region false r28_26)
  .ret)
  (.seq (.region false r28_27)
  (.cond (.slot 69)
  (.seq (.region false r28_28)
  .ret)
  .skip)))))
  (.region false r28_29))))))))
  (.region false r28_30)))))))
  (.seq (.region false r28_31)
  .ret)))))),
  [.tmp 6]⟩
theorem xf28_ok : compFunc Try.prog Try.f28 = some xf28 := by kernel_rfl
/- (*threshing/base.Base).put -/
def r29_0 : List XLine := [⟨⟨.mv (.slot 0), some 8, none⟩, []⟩,
  ⟨⟨.nilCheck (.slot 8), some 9, none⟩, []⟩,
  ⟨⟨.faddr 4 (.slot 9), some 10, none⟩, []⟩,
  ⟨⟨.load false 1 (.slot 10), some 11, none⟩, []⟩,
  ⟨⟨.bin .add 2 .num (.slot 11) (.const (.int .i64 (.ofNat 1))), some 12, none⟩, []⟩,
  ⟨⟨.nilCheck (.slot 8), some 13, none⟩, []⟩,
  ⟨⟨.faddr 4 (.slot 13), some 14, none⟩, []⟩,
  ⟨⟨.store 1 (.slot 14) (.slot 12), none, none⟩, []⟩]
def r29_1 : List XLine := [⟨⟨.mv (.slot 0), some 15, none⟩, []⟩,
  ⟨⟨.nilCheck (.slot 15), some 16, none⟩, []⟩,
  ⟨⟨.faddr 1 (.slot 16), some 17, none⟩, []⟩,
  ⟨⟨.load false 1 (.slot 17), some 18, none⟩, []⟩,
  ⟨⟨.mv (.slot 0), some 19, none⟩, []⟩,
  ⟨⟨.nilCheck (.slot 19), some 20, none⟩, []⟩,
  ⟨⟨.faddr 4 (.slot 20), some 21, none⟩, []⟩,
  ⟨⟨.load false 1 (.slot 21), some 22, none⟩, []⟩,
  ⟨⟨.mv (.slot 0), some 23, none⟩, []⟩,
  ⟨⟨.nilCheck (.slot 23), some 24, none⟩, []⟩,
  ⟨⟨.faddr 4 (.slot 24), some 25, none⟩, []⟩,
  ⟨⟨.load false 1 (.slot 25), some 26, none⟩, []⟩,
  ⟨⟨.mv (.slot 1), some 27, none⟩, []⟩,
  ⟨⟨.mv (.slot 2), some 29, none⟩, []⟩,
  ⟨⟨.call (.const (.func 25 [] [])) [(.slot 27)], some 28, none⟩, [⟨.load false 1 (.slot 17), some 18, none⟩, ⟨.load false 1 (.slot 21), some 22, none⟩, ⟨.load false 1 (.slot 25), some 26, none⟩]⟩,
  ⟨⟨.build [(.int .i64 (.ofNat 0)), .nils, (.bool false)] [(0, 1, (.slot 26)), (1, 1, (.slot 28)), (2, 1, (.slot 29))], some 30, none⟩, []⟩,
  ⟨⟨.mapup .i64 (.slot 18) (.slot 22) (.slot 30), none, none⟩, []⟩]
def r29_2 : List XLine := [⟨⟨.mv (.slot 1), some 31, none⟩, []⟩,
  ⟨⟨.len .slice (.slot 31), some 32, none⟩, []⟩,
  ⟨⟨.bin .eql 3 .num (.slot 32) (.const (.int .i64 (.ofNat 0))), some 33, none⟩, []⟩]
def r29_3 : List XLine := [⟨⟨.mv (.slot 0), some 34, none⟩, []⟩,
  ⟨⟨.nilCheck (.slot 34), some 35, none⟩, []⟩,
  ⟨⟨.faddr 3 (.slot 35), some 36, none⟩, []⟩,
  ⟨⟨.load false 1 (.slot 36), some 37, none⟩, []⟩,
  ⟨⟨.mv (.slot 0), some 38, none⟩, []⟩,
  ⟨⟨.nilCheck (.slot 38), some 39, none⟩, []⟩,
  ⟨⟨.faddr 4 (.slot 39), some 40, none⟩, []⟩,
  ⟨⟨.load false 1 (.slot 40), some 41, none⟩, []⟩,
  ⟨⟨.mapup .i64 (.slot 37) (.slot 41) (.const (.bool true)), none, none⟩, []⟩]
def r29_4 : List XLine := [⟨⟨.mv (.slot 1), some 42, none⟩, []⟩,
  ⟨⟨.len .slice (.slot 42), some 43, none⟩, []⟩,
  ⟨⟨.mv (.const (.int .i64 (.ofNat 0))), some 44, none⟩, []⟩]
def r29_5 : List XLine := [⟨⟨.bin .lss 3 .num (.slot 44) (.slot 43), some 45, none⟩, []⟩]
def r29_6 : List XLine := [⟨⟨.iaddr 1 (.slot 42) (.slot 44), some 46, none⟩, []⟩,
  ⟨⟨.load false 1 (.slot 46), some 47, none⟩, []⟩,
  ⟨⟨.mv (.slot 47), some 7, none⟩, []⟩]
def r29_7 : List XLine := [⟨⟨.mv (.slot 0), some 48, none⟩, []⟩,
  ⟨⟨.nilCheck (.slot 48), some 49, none⟩, []⟩,
  ⟨⟨.faddr 2 (.slot 49), some 50, none⟩, []⟩,
  ⟨⟨.load false 1 (.slot 50), some 51, none⟩, []⟩,
  ⟨⟨.mv (.slot 7), some 52, none⟩, []⟩,
  ⟨⟨.lookup .i32 .nilm (.slot 51) (.slot 52) false, some 53, none⟩, []⟩,
  ⟨⟨.bin .eql 70 .map (.slot 53) (.const .nilm), some 54, none⟩, []⟩]
def r29_8 : List XLine := [⟨⟨.mv (.slot 0), some 55, none⟩, []⟩,
  ⟨⟨.nilCheck (.slot 55), some 56, none⟩, []⟩,
  ⟨⟨.faddr 2 (.slot 56), some 57, none⟩, []⟩,
  ⟨⟨.load false 1 (.slot 57), some 58, none⟩, []⟩,
  ⟨⟨.mv (.slot 7), some 59, none⟩, []⟩,
  ⟨⟨.mkmap .i64, some 60, none⟩, []⟩,
  ⟨⟨.mapup .i32 (.slot 58) (.slot 59) (.slot 60), none, none⟩, []⟩]
def r29_9 : List XLine := [⟨⟨.mv (.slot 0), some 61, none⟩, []⟩,
  ⟨⟨.nilCheck (.slot 61), some 62, none⟩, []⟩,
  ⟨⟨.faddr 2 (.slot 62), some 63, none⟩, []⟩,
  ⟨⟨.load false 1 (.slot 63), some 64, none⟩, []⟩,
  ⟨⟨.mv (.slot 7), some 65, none⟩, []⟩,
  ⟨⟨.lookup .i32 .nilm (.slot 64) (.slot 65) false, some 66, none⟩, []⟩,
  ⟨⟨.mv (.slot 0), some 67, none⟩, []⟩,
  ⟨⟨.nilCheck (.slot 67), some 68, none⟩, []⟩,
  ⟨⟨.faddr 4 (.slot 68), some 69, none⟩, []⟩,
  ⟨⟨.load false 1 (.slot 69), some 70, none⟩, []⟩,
  ⟨⟨.mapup .i64 (.slot 66) (.slot 70) (.const (.bool true)), none, none⟩, []⟩]
def r29_10 : List XLine := [⟨⟨.bin .add 3 .num (.slot 44) (.const (.int .i64 (.ofNat 1))), some 71, none⟩, []⟩,
  ⟨⟨.mv (.slot 71), some 44, none⟩, []⟩]
def xf29 : XFunc := ⟨(.seq (.region false r29_0)
  (.seq (.region true r29_1)
  (.seq (.seq (.region false r29_2)
  (.cond (.slot 33)
  (.region true r29_3)
  .skip))
  (.seq (.region false r29_4)
  (.block 0 (.loop (.seq (.region false r29_5)
  (.seq (.cond (.slot 45)
  .skip
  (.exit 0))
  (.seq (.block 1 (.seq (.region false r29_6)
  (.seq (.seq (.region false r29_7)
  (.cond (.slot 54)
  (.region false r29_8)
  .skip))
  (.region true r29_9))))
  (.region false r29_10)))))))))),
  []⟩
theorem xf29_ok : compFunc Try.prog Try.f29 = some xf29 := by kernel_rfl
/- slices.Clone[[]int64,int64] -/
def r30_0 : List XLine := [⟨⟨.mv (.const .nils), some 2, none⟩, []⟩]
def r30_1 : List XLine := [⟨⟨.mv (.slot 0), some 3, none⟩, []⟩,
  ⟨⟨.bin .eql 40 .slice (.slot 3) (.const .nils), some 4, none⟩, []⟩]
def r30_2 : List XLine := [⟨⟨.mv (.const .nils), some 2, none⟩, []⟩]
def r30_3 : List XLine := [⟨⟨.bslice 1 [] [] 0, some 5, none⟩, []⟩,
  ⟨⟨.mv (.slot 0), some 6, none⟩, []⟩,
  ⟨⟨.append 1 8 (.slot 5) (.slot 6), some 7, none⟩, []⟩,
  ⟨⟨.mv (.slot 7), some 2, none⟩, []⟩]
def xf30 : XFunc := ⟨(.seq (.region false r30_0)
  (.seq (.seq (.region false r30_1)
  (.cond (.slot 4)
  (.seq (.region false r30_2)
  .ret)
  .skip))
  (.seq (.region false r30_3)
  .ret))),
  [.tmp 2]⟩
theorem xf30_ok : compFunc Try.prog Try.f30 = some xf30 := by kernel_rfl
/- (*threshing/base.Base).note -/
def r31_0 : List XLine := [⟨⟨.box (.slot 1), some 3, none⟩, []⟩,
  ⟨⟨.mv (.const (.int .i64 (.ofNat 0))), some 4, none⟩, []⟩]
def r31_1 : List XLine := [⟨⟨.mv (.slot 0), some 5, none⟩, []⟩,
  ⟨⟨.mv (.slot 0), some 6, none⟩, []⟩,
  ⟨⟨.nilCheck (.slot 6), some 7, none⟩, []⟩,
  ⟨⟨.faddr 7 (.slot 7), some 8, none⟩, []⟩,
  ⟨⟨.load false 1 (.slot 8), some 9, none⟩, []⟩,
  ⟨⟨.load true 6 (.slot 3), some 10, none⟩, []⟩,
  ⟨⟨.bslice 6 [(.int .u8 (.ofNat 0)), (.int .i64 (.ofNat 0)), (.int .i64 (.ofNat 0)), (.bool false), .nils, .nils] [(0, 6, (.slot 10))] 1, some 11, none⟩, [⟨.load false 1 (.slot 8), some 9, none⟩]⟩,
  ⟨⟨.append 6 80 (.slot 9) (.slot 11), some 12, none⟩, []⟩,
  ⟨⟨.nilCheck (.slot 5), some 13, none⟩, []⟩,
  ⟨⟨.faddr 7 (.slot 13), some 14, none⟩, []⟩,
  ⟨⟨.store 1 (.slot 14) (.slot 12), none, none⟩, []⟩]
def r31_2 : List XLine := [⟨⟨.mv (.const (.int .i64 (.ofNat 0))), some 4, none⟩, []⟩]
def xf31 : XFunc := ⟨(.seq (.region false r31_0)
  (.seq (.region true r31_1)
  (.seq (.region false r31_2)
  .ret))),
  [.tmp 4]⟩
theorem xf31_ok : compFunc Try.prog Try.f31 = some xf31 := by kernel_rfl
/- slices.Sorted[int64] -/
def r32_0 : List XLine := [⟨⟨.mv (.const .nils), some 2, none⟩, []⟩]
def r32_1 : List XLine := [⟨⟨.mv (.slot 0), some 4, none⟩, []⟩,
  ⟨⟨.call (.const (.func 54 [] [])) [(.slot 4)], some 5, none⟩, []⟩,
  ⟨⟨.mv (.slot 5), some 3, none⟩, []⟩]
def r32_2 : List XLine := [⟨⟨.mv (.slot 3), some 6, none⟩, []⟩,
  ⟨⟨.call (.const (.func 55 [] [])) [(.slot 6)], some 7, none⟩, []⟩]
def r32_3 : List XLine := [⟨⟨.mv (.slot 3), some 8, none⟩, []⟩,
  ⟨⟨.mv (.slot 8), some 2, none⟩, []⟩]
def xf32 : XFunc := ⟨(.seq (.region false r32_0)
  (.seq (.region false r32_1)
  (.seq (.region false r32_2)
  (.seq (.region false r32_3)
  .ret)))),
  [.tmp 2]⟩
theorem xf32_ok : compFunc Try.prog Try.f32 = some xf32 := by kernel_rfl
/- maps.Keys[map[int64]threshing/api.Entry,int64,threshing/api.Entry] -/
def r33_0 : List XLine := [⟨⟨.box (.slot 0), some 1, none⟩, []⟩,
  ⟨⟨.mv (.const .nilf), some 2, none⟩, []⟩]
def r33_1 : List XLine := [⟨⟨.mkfunc 56 [] [(.slot 1)], some 3, none⟩, []⟩,
  ⟨⟨.mv (.slot 3), some 2, none⟩, []⟩]
def xf33 : XFunc := ⟨(.seq (.region false r33_0)
  (.seq (.region false r33_1)
  .ret)),
  [.tmp 2]⟩
theorem xf33_ok : compFunc Try.prog Try.f33 = some xf33 := by kernel_rfl
/- threshing/base.entry -/
def r34_0 : List XLine := [⟨⟨.box (.slot 0), some 1, none⟩, []⟩,
  ⟨⟨.alloc [(.int .i64 (.ofNat 0)), .nils, (.bool false)], some 2, none⟩, []⟩]
def r34_1 : List XLine := [⟨⟨.faddr 1 (.slot 1), some 3, none⟩, []⟩,
  ⟨⟨.load false 1 (.slot 3), some 4, none⟩, []⟩,
  ⟨⟨.call (.const (.func 25 [] [])) [(.slot 4)], some 5, none⟩, []⟩,
  ⟨⟨.faddr 1 (.slot 1), some 6, none⟩, []⟩,
  ⟨⟨.store 1 (.slot 6) (.slot 5), none, none⟩, []⟩]
def r34_2 : List XLine := [⟨⟨.load true 3 (.slot 1), some 7, none⟩, []⟩,
  ⟨⟨.store 3 (.slot 2) (.slot 7), none, none⟩, []⟩]
def xf34 : XFunc := ⟨(.seq (.region false r34_0)
  (.seq (.region false r34_1)
  (.seq (.region false r34_2)
  .ret))),
  [.cell 2 true 3]⟩
theorem xf34_ok : compFunc Try.prog Try.f34 = some xf34 := by kernel_rfl
/- threshing/cnf.Right -/
def r35_0 : List XLine := [⟨⟨.box (.slot 0), some 1, none⟩, []⟩,
  ⟨⟨.mv (.const (.int .i64 (.ofNat 0))), some 2, none⟩, []⟩]
def r35_1 : List XLine := [⟨⟨.faddr 0 (.slot 1), some 9, none⟩, []⟩,
  ⟨⟨.load false 1 (.slot 9), some 10, none⟩, []⟩,
  ⟨⟨.bin .lss 3 .num (.slot 10) (.const (.int .i64 (.ofNat 0))), some 11, none⟩, []⟩,
  ⟨⟨.mv (.slot 11), some 8, none⟩, []⟩]
def r35_2 : List XLine := [⟨⟨.faddr 0 (.slot 1), some 12, none⟩, []⟩,
  ⟨⟨.load false 1 (.slot 12), some 13, none⟩, []⟩,
  ⟨⟨.bin .gtr 3 .num (.slot 13) (.const (.int .i64 (.ofNat 1048576))), some 14, none⟩, []⟩,
  ⟨⟨.mv (.slot 14), some 8, none⟩, []⟩]
def r35_3 : List XLine := [⟨⟨.mv (.const (.int .i64 (.ofNat 2))), some 2, none⟩, []⟩]
def r35_4 : List XLine := [⟨⟨.faddr 1 (.slot 1), some 16, none⟩, []⟩,
  ⟨⟨.load false 1 (.slot 16), some 17, none⟩, []⟩,
  ⟨⟨.len .slice (.slot 17), some 18, none⟩, []⟩,
  ⟨⟨.bin .gtr 3 .num (.slot 18) (.const (.int .i64 (.ofNat 1048576))), some 19, none⟩, []⟩,
  ⟨⟨.mv (.slot 19), some 15, none⟩, []⟩]
def r35_5 : List XLine := [⟨⟨.mv (.const (.int .i64 (.ofNat 3))), some 2, none⟩, []⟩]
def r35_6 : List XLine := [⟨⟨.mv (.const (.int .i64 (.ofNat 16777216))), some 3, none⟩, []⟩]
def r35_7 : List XLine := [⟨⟨.faddr 1 (.slot 1), some 20, none⟩, []⟩,
  ⟨⟨.load false 1 (.slot 20), some 21, none⟩, []⟩,
  ⟨⟨.len .slice (.slot 21), some 22, none⟩, []⟩,
  ⟨⟨.mv (.const (.int .i64 (.ofNat 0))), some 23, none⟩, []⟩]
def r35_8 : List XLine := [⟨⟨.bin .lss 3 .num (.slot 23) (.slot 22), some 24, none⟩, []⟩]
def r35_9 : List XLine := [⟨⟨.iaddr 1 (.slot 21) (.slot 23), some 25, none⟩, []⟩,
  ⟨⟨.load false 1 (.slot 25), some 26, none⟩, []⟩,
  ⟨⟨.mv (.slot 26), some 5, none⟩, []⟩]
def r35_10 : List XLine := [⟨⟨.mv (.slot 5), some 27, none⟩, []⟩,
  ⟨⟨.len .slice (.slot 27), some 28, none⟩, []⟩,
  ⟨⟨.mv (.const (.int .i64 (.ofNat 0))), some 29, none⟩, []⟩]
def r35_11 : List XLine := [⟨⟨.bin .lss 3 .num (.slot 29) (.slot 28), some 30, none⟩, []⟩]
def r35_12 : List XLine := [⟨⟨.iaddr 1 (.slot 27) (.slot 29), some 31, none⟩, []⟩,
  ⟨⟨.load false 1 (.slot 31), some 32, none⟩, []⟩,
  ⟨⟨.mv (.slot 32), some 7, none⟩, []⟩]
def r35_13 : List XLine := [⟨⟨.mv (.slot 3), some 33, none⟩, []⟩,
  ⟨⟨.bin .eql 3 .num (.slot 33) (.const (.int .i64 (.ofNat 0))), some 34, none⟩, []⟩]
def r35_14 : List XLine := [⟨⟨.mv (.const (.int .i64 (.ofNat 3))), some 2, none⟩, []⟩]
def r35_15 : List XLine := [⟨⟨.mv (.slot 3), some 35, none⟩, []⟩,
  ⟨⟨.bin .sub 3 .num (.slot 35) (.const (.int .i64 (.ofNat 1))), some 36, none⟩, []⟩,
  ⟨⟨.mv (.slot 36), some 3, none⟩, []⟩]
def r35_16 : List XLine := [⟨⟨.mv (.slot 7), some 37, none⟩, []⟩,
  ⟨⟨.bin .eql 24 .num (.slot 37) (.const (.int .i32 (.ofNat 0))), some 38, none⟩, []⟩,
  ⟨⟨.mv (.slot 38), some 39, none⟩, []⟩,
  ⟨⟨.mv (.slot 7), some 40, some (39, false)⟩, []⟩,
  ⟨⟨.faddr 0 (.slot 1), some 42, some (39, false)⟩, []⟩,
  ⟨⟨.load false 1 (.slot 42), some 43, some (39, false)⟩, []⟩,
  ⟨⟨.call (.const (.func 52 [] [])) [(.slot 40)], some 41, some (39, false)⟩, [⟨.load false 1 (.slot 42), some 43, some (39, false)⟩]⟩,
  ⟨⟨.bin .gtr 3 .num (.slot 41) (.slot 43), some 44, some (39, false)⟩, []⟩,
  ⟨⟨.pick (.slot 39) (.const (.bool true)) (.slot 44), some 45, none⟩, []⟩]
def r35_17 : List XLine := [⟨⟨.mv (.const (.int .i64 (.ofNat 4))), some 2, none⟩, []⟩]
def r35_18 : List XLine := [⟨⟨.bin .add 3 .num (.slot 29) (.const (.int .i64 (.ofNat 1))), some 46, none⟩, []⟩,
  ⟨⟨.mv (.slot 46), some 29, none⟩, []⟩]
def r35_19 : List XLine := [⟨⟨.bin .add 3 .num (.slot 23) (.const (.int .i64 (.ofNat 1))), some 47, none⟩, []⟩,
  ⟨⟨.mv (.slot 47), some 23, none⟩, []⟩]
def r35_20 : List XLine := [⟨⟨.mv (.const (.int .i64 (.ofNat 0))), some 2, none⟩, []⟩]
def xf35 : XFunc := ⟨(.seq (.region false r35_0)
  (.seq (.block 0 (.seq (.seq (.region false r35_1)
  (.cond (.slot 8)
  .skip
  (.region false r35_2)))
  (.cond (.slot 8)
  (.seq (.region false r35_3)
  .ret)
  (.seq (.region false r35_4)
  (.cond (.slot 15)
  (.seq (.region false r35_5)
  .ret)
  .skip)))))
  (.seq (.region false r35_6)
  (.seq (.seq (.region false r35_7)
  (.block 1 (.loop (.seq (.region false r35_8)
  (.seq (.cond (.slot 24)
  .skip
  (.exit 1))
  (.seq (.block 2 (.seq (.region false r35_9)
  (.seq (.region false r35_10)
  (.block 3 (.loop (.seq (.region false r35_11)
  (.seq (.cond (.slot 30)
  .skip
  (.exit 3))
  (.seq (.block 4 (.seq (.region false r35_12)
  (.seq (.seq (.region false r35_13)
  (.cond (.slot 34)
  (.seq (.region false r35_14)
  .ret)
  .skip))
  (.seq (.region false r35_15)
  (.seq (.region true r35_16)
  (.cond (.slot 45)
  (.seq (.region false r35_17)
  .ret)
  .skip))))))
  (.region false r35_18)))))))))
  (.region false r35_19)))))))
  (.seq (.region false r35_20)
  .ret))))),
  [.tmp 2]⟩
theorem xf35_ok : compFunc Try.prog Try.f35 = some xf35 := by kernel_rfl
/- slices.SortFunc[threshing/api.Clause,threshing/api.Lit] -/
def r36_0 : List XLine := [⟨⟨.mv (.slot 0), some 5, none⟩, []⟩,
  ⟨⟨.len .slice (.slot 5), some 6, none⟩, []⟩,
  ⟨⟨.mv (.slot 6), some 4, none⟩, []⟩]
def r36_1 : List XLine := [⟨⟨.mv (.slot 0), some 7, none⟩, []⟩,
  ⟨⟨.mv (.slot 4), some 8, none⟩, []⟩,
  ⟨⟨.mv (.slot 4), some 9, none⟩, []⟩,
  ⟨⟨.conv .u64 (.slot 9), some 10, none⟩, []⟩,
  ⟨⟨.call (.const (.func 58 [] [])) [(.slot 10)], some 11, none⟩, []⟩,
  ⟨⟨.mv (.slot 1), some 12, none⟩, []⟩,
  ⟨⟨.call (.const (.func 57 [] [])) [(.slot 7), (.const (.int .i64 (.ofNat 0))), (.slot 8), (.slot 11), (.slot 12)], some 13, none⟩, []⟩]
def xf36 : XFunc := ⟨(.seq (.region false r36_0)
  (.region false r36_1)),
  []⟩
theorem xf36_ok : compFunc Try.prog Try.f36 = some xf36 := by kernel_rfl
/- threshing/cnf.order -/
def r37_0 : List XLine := [⟨⟨.mv (.const (.int .i64 (.ofNat 0))), some 4, none⟩, []⟩]
def r37_1 : List XLine := [⟨⟨.mv (.slot 0), some 5, none⟩, []⟩,
  ⟨⟨.call (.const (.func 52 [] [])) [(.slot 5)], some 6, none⟩, []⟩,
  ⟨⟨.mv (.slot 1), some 7, none⟩, []⟩,
  ⟨⟨.call (.const (.func 52 [] [])) [(.slot 7)], some 8, none⟩, []⟩,
  ⟨⟨.call (.const (.func 60 [] [])) [(.slot 6), (.slot 8)], some 9, none⟩, []⟩,
  ⟨⟨.mv (.slot 0), some 10, none⟩, []⟩,
  ⟨⟨.mv (.slot 1), some 11, none⟩, []⟩,
  ⟨⟨.call (.const (.func 61 [] [])) [(.slot 10), (.slot 11)], some 12, none⟩, []⟩,
  ⟨⟨.bslice 1 [(.int .i64 (.ofNat 0)), (.int .i64 (.ofNat 0))] [(0, 1, (.slot 9)), (1, 1, (.slot 12))] 2, some 13, none⟩, []⟩,
  ⟨⟨.call (.const (.func 59 [] [])) [(.slot 13)], some 14, none⟩, []⟩,
  ⟨⟨.mv (.slot 14), some 4, none⟩, []⟩]
def xf37 : XFunc := ⟨(.seq (.region false r37_0)
  (.seq (.region false r37_1)
  .ret)),
  [.tmp 4]⟩
theorem xf37_ok : compFunc Try.prog Try.f37 = some xf37 := by kernel_rfl
/- slices.Compact[threshing/api.Clause,threshing/api.Lit] -/
def r38_0 : List XLine := [⟨⟨.mv (.const .nils), some 2, none⟩, []⟩]
def r38_1 : List XLine := [⟨⟨.mv (.slot 0), some 6, none⟩, []⟩,
  ⟨⟨.len .slice (.slot 6), some 7, none⟩, []⟩,
  ⟨⟨.bin .lss 3 .num (.slot 7) (.const (.int .i64 (.ofNat 2))), some 8, none⟩, []⟩]
def r38_2 : List XLine := [⟨⟨.mv (.slot 0), some 9, none⟩, []⟩,
  ⟨⟨.mv (.slot 9), some 2, none⟩, []⟩]
def r38_3 : List XLine := [⟨⟨.mv (.const (.int .i64 (.ofNat 1))), some 3, none⟩, []⟩]
def r38_4 : List XLine := [⟨⟨.mv (.slot 3), some 10, none⟩, []⟩,
  ⟨⟨.mv (.slot 0), some 11, none⟩, []⟩,
  ⟨⟨.len .slice (.slot 11), some 12, none⟩, []⟩,
  ⟨⟨.bin .lss 3 .num (.slot 10) (.slot 12), some 13, none⟩, []⟩]
def r38_5 : List XLine := [⟨⟨.mv (.slot 0), some 16, none⟩, []⟩,
  ⟨⟨.mv (.slot 3), some 17, none⟩, []⟩,
  ⟨⟨.iaddr 1 (.slot 16) (.slot 17), some 18, none⟩, []⟩,
  ⟨⟨.load false 1 (.slot 18), some 19, none⟩, []⟩,
  ⟨⟨.mv (.slot 0), some 20, none⟩, []⟩,
  ⟨⟨.mv (.slot 3), some 21, none⟩, []⟩,
  ⟨⟨.bin .sub 3 .num (.slot 21) (.const (.int .i64 (.ofNat 1))), some 22, none⟩, []⟩,
  ⟨⟨.iaddr 1 (.slot 20) (.slot 22), some 23, none⟩, []⟩,
  ⟨⟨.load false 1 (.slot 23), some 24, none⟩, []⟩,
  ⟨⟨.bin .eql 24 .num (.slot 19) (.slot 24), some 25, none⟩, []⟩]
def r38_6 : List XLine := [⟨⟨.mv (.slot 0), some 26, none⟩, []⟩,
  ⟨⟨.mv (.slot 3), some 27, none⟩, []⟩,
  ⟨⟨.slc 1 (.slot 26) (some (.slot 27)) none none, some 28, none⟩, []⟩,
  ⟨⟨.mv (.slot 28), some 4, none⟩, []⟩]
def r38_7 : List XLine := [⟨⟨.mv (.const (.int .i64 (.ofNat 1))), some 5, none⟩, []⟩]
def r38_8 : List XLine := [⟨⟨.mv (.slot 5), some 29, none⟩, []⟩,
  ⟨⟨.mv (.slot 4), some 30, none⟩, []⟩,
  ⟨⟨.len .slice (.slot 30), some 31, none⟩, []⟩,
  ⟨⟨.bin .lss 3 .num (.slot 29) (.slot 31), some 32, none⟩, []⟩]
def r38_9 : List XLine := [⟨⟨.mv (.slot 4), some 35, none⟩, []⟩,
  ⟨⟨.mv (.slot 5), some 36, none⟩, []⟩,
  ⟨⟨.iaddr 1 (.slot 35) (.slot 36), some 37, none⟩, []⟩,
  ⟨⟨.load false 1 (.slot 37), some 38, none⟩, []⟩,
  ⟨⟨.mv (.slot 4), some 39, none⟩, []⟩,
  ⟨⟨.mv (.slot 5), some 40, none⟩, []⟩,
  ⟨⟨.bin .sub 3 .num (.slot 40) (.const (.int .i64 (.ofNat 1))), some 41, none⟩, []⟩,
  ⟨⟨.iaddr 1 (.slot 39) (.slot 41), some 42, none⟩, []⟩,
  ⟨⟨.load false 1 (.slot 42), some 43, none⟩, []⟩,
  ⟨⟨.bin .neq 24 .num (.slot 38) (.slot 43), some 44, none⟩, []⟩]
def r38_10 : List XLine := [⟨⟨.mv (.slot 0), some 45, none⟩, []⟩,
  ⟨⟨.mv (.slot 3), some 46, none⟩, []⟩,
  ⟨⟨.mv (.slot 4), some 47, none⟩, []⟩,
  ⟨⟨.mv (.slot 5), some 48, none⟩, []⟩,
  ⟨⟨.iaddr 1 (.slot 47) (.slot 48), some 49, none⟩, []⟩,
  ⟨⟨.load false 1 (.slot 49), some 50, none⟩, []⟩,
  ⟨⟨.iaddr 1 (.slot 45) (.slot 46), some 51, none⟩, []⟩,
  ⟨⟨.store 1 (.slot 51) (.slot 50), none, none⟩, []⟩]
def r38_11 : List XLine := [⟨⟨.mv (.slot 3), some 52, none⟩, []⟩,
  ⟨⟨.bin .add 3 .num (.slot 52) (.const (.int .i64 (.ofNat 1))), some 53, none⟩, []⟩,
  ⟨⟨.mv (.slot 53), some 3, none⟩, []⟩]
def r38_12 : List XLine := [⟨⟨.mv (.slot 5), some 33, none⟩, []⟩,
  ⟨⟨.bin .add 3 .num (.slot 33) (.const (.int .i64 (.ofNat 1))), some 34, none⟩, []⟩,
  ⟨⟨.mv (.slot 34), some 5, none⟩, []⟩]
def r38_13 : List XLine := [⟨⟨.mv (.slot 0), some 54, none⟩, []⟩,
  ⟨⟨.mv (.slot 3), some 55, none⟩, []⟩,
  ⟨⟨.slc 1 (.slot 54) (some (.slot 55)) none none, some 56, none⟩, []⟩,
  ⟨⟨.clear [(.int .i32 (.ofNat 0))] (.slot 56), none, none⟩, []⟩]
def r38_14 : List XLine := [⟨⟨.mv (.slot 0), some 57, none⟩, []⟩,
  ⟨⟨.mv (.slot 3), some 58, none⟩, []⟩,
  ⟨⟨.slc 1 (.slot 57) none (some (.slot 58)) none, some 59, none⟩, []⟩,
  ⟨⟨.mv (.slot 59), some 2, none⟩, []⟩]
def r38_15 : List XLine := [⟨⟨.mv (.slot 3), some 14, none⟩, []⟩,
  ⟨⟨.bin .add 3 .num (.slot 14) (.const (.int .i64 (.ofNat 1))), some 15, none⟩, []⟩,
  ⟨⟨.mv (.slot 15), some 3, none⟩, []⟩]
def r38_16 : List XLine := [⟨⟨.mv (.slot 0), some 60, none⟩, []⟩,
  ⟨⟨.mv (.slot 60), some 2, none⟩, []⟩]
def xf38 : XFunc := ⟨(.seq (.region false r38_0)
  (.seq (.seq (.region false r38_1)
  (.cond (.slot 8)
  (.seq (.region false r38_2)
  .ret)
  .skip))
  (.seq (.seq (.region false r38_3)
  (.block 0 (.loop (.seq (.seq (.region false r38_4)
  (.cond (.slot 13)
  .skip
  (.exit 0)))
  (.seq (.block 1 (.seq (.region true r38_5)
  (.cond (.slot 25)
  (.seq (.region false r38_6)
  (.seq (.seq (.region false r38_7)
  (.block 2 (.loop (.seq (.seq (.region false r38_8)
  (.cond (.slot 32)
  .skip
  (.exit 2)))
  (.seq (.block 3 (.seq (.region true r38_9)
  (.cond (.slot 44)
  (.seq (.region false r38_10)
  (.region false r38_11))
  .skip)))
  (.region false r38_12))))))
  (.seq (.region false r38_13)
  (.seq (.region false r38_14)
  .ret))))
  .skip)))
  (.region false r38_15))))))
  (.seq (.region false r38_16)
  .ret)))),
  [.tmp 2]⟩
theorem xf38_ok : compFunc Try.prog Try.f38 = some xf38 := by kernel_rfl
/- slices.Clip[threshing/api.Clause,threshing/api.Lit] -/
def r39_0 : List XLine := [⟨⟨.mv (.const .nils), some 2, none⟩, []⟩]
def r39_1 : List XLine := [⟨⟨.mv (.slot 0), some 3, none⟩, []⟩,
  ⟨⟨.mv (.slot 0), some 4, none⟩, []⟩,
  ⟨⟨.len .slice (.slot 4), some 5, none⟩, []⟩,
  ⟨⟨.mv (.slot 0), some 6, none⟩, []⟩,
  ⟨⟨.len .slice (.slot 6), some 7, none⟩, []⟩,
  ⟨⟨.slc 1 (.slot 3) none (some (.slot 5)) (some (.slot 7)), some 8, none⟩, []⟩,
  ⟨⟨.mv (.slot 8), some 2, none⟩, []⟩]
def xf39 : XFunc := ⟨(.seq (.region false r39_0)
  (.seq (.region false r39_1)
  .ret)),
  [.tmp 2]⟩
theorem xf39_ok : compFunc Try.prog Try.f39 = some xf39 := by kernel_rfl
/- maps.Clone[threshing/condition.set,threshing/api.Lit,bool] -/
def r40_0 : List XLine := [⟨⟨.mv (.const .nilm), some 2, none⟩, []⟩]
def r40_1 : List XLine := [⟨⟨.mv (.slot 0), some 3, none⟩, []⟩,
  ⟨⟨.bin .eql 52 .map (.slot 3) (.const .nilm), some 4, none⟩, []⟩]
def r40_2 : List XLine := [⟨⟨.mv (.const .nilm), some 2, none⟩, []⟩]
def r40_3 : List XLine := [⟨⟨.mv (.slot 0), some 5, none⟩, []⟩,
  ⟨⟨.mkif 52 (.slot 5), some 6, none⟩, []⟩,
  ⟨⟨.call (.const (.func 62 [] [])) [(.slot 6)], some 7, none⟩, []⟩,
  ⟨⟨.tassert 52 .nilm false (.slot 7), some 8, none⟩, []⟩,
  ⟨⟨.mv (.slot 8), some 2, none⟩, []⟩]
def xf40 : XFunc := ⟨(.seq (.region false r40_0)
  (.seq (.seq (.region false r40_1)
  (.cond (.slot 4)
  (.seq (.region false r40_2)
  .ret)
  .skip))
  (.seq (.region false r40_3)
  .ret))),
  [.tmp 2]⟩
theorem xf40_ok : compFunc Try.prog Try.f40 = some xf40 := by kernel_rfl
/- slices.Contains[threshing/api.Clause,threshing/api.Lit] -/
def r41_0 : List XLine := [⟨⟨.mv (.const (.bool false)), some 4, none⟩, []⟩]
def r41_1 : List XLine := [⟨⟨.mv (.slot 0), some 5, none⟩, []⟩,
  ⟨⟨.mv (.slot 1), some 6, none⟩, []⟩,
  ⟨⟨.call (.const (.func 63 [] [])) [(.slot 5), (.slot 6)], some 7, none⟩, []⟩,
  ⟨⟨.bin .geq 3 .num (.slot 7) (.const (.int .i64 (.ofNat 0))), some 8, none⟩, []⟩,
  ⟨⟨.mv (.slot 8), some 4, none⟩, []⟩]
def xf41 : XFunc := ⟨(.seq (.region false r41_0)
  (.seq (.region false r41_1)
  .ret)),
  [.tmp 4]⟩
theorem xf41_ok : compFunc Try.prog Try.f41 = some xf41 := by kernel_rfl
/- threshing/condition.rest$1 -/
def r42_0 : List XLine := [⟨⟨.mv (.const (.bool false)), some 4, none⟩, []⟩]
def r42_1 : List XLine := [⟨⟨.load false 1 (.slot 1), some 5, none⟩, []⟩,
  ⟨⟨.mv (.slot 0), some 6, none⟩, []⟩,
  ⟨⟨.call (.const (.func 43 [] [])) [(.slot 5), (.slot 6)], some 7, none⟩, []⟩,
  ⟨⟨.mv (.slot 7), some 8, none⟩, []⟩,
  ⟨⟨.load false 1 (.slot 2), some 9, some (8, false)⟩, []⟩,
  ⟨⟨.mv (.slot 0), some 10, some (8, false)⟩, []⟩,
  ⟨⟨.call (.const (.func 43 [] [])) [(.slot 9), (.slot 10)], some 11, some (8, false)⟩, []⟩,
  ⟨⟨.pick (.slot 8) (.const (.bool true)) (.slot 11), some 12, none⟩, []⟩,
  ⟨⟨.mv (.slot 12), some 4, none⟩, []⟩]
def xf42 : XFunc := ⟨(.seq (.region false r42_0)
  (.seq (.region false r42_1)
  .ret)),
  [.tmp 4]⟩
theorem xf42_ok : compFunc Try.prog Try.f42 = some xf42 := by kernel_rfl
/- (threshing/condition.set).has -/
def r43_0 : List XLine := [⟨⟨.box (.slot 0), some 2, none⟩, []⟩,
  ⟨⟨.mv (.const (.bool false)), some 4, none⟩, []⟩]
def r43_1 : List XLine := [⟨⟨.mv (.slot 1), some 5, none⟩, []⟩,
  ⟨⟨.mkfunc 64 [] [(.slot 2)], some 6, none⟩, []⟩,
  ⟨⟨.call (.const (.func 50 [] [])) [(.slot 5), (.slot 6)], some 7, none⟩, []⟩,
  ⟨⟨.mv (.slot 7), some 4, none⟩, []⟩]
def xf43 : XFunc := ⟨(.seq (.region false r43_0)
  (.seq (.region false r43_1)
  .ret)),
  [.tmp 4]⟩
theorem xf43_ok : compFunc Try.prog Try.f43 = some xf43 := by kernel_rfl
/- threshing/condition.kept -/
def r44_0 : List XLine := [⟨⟨.box (.slot 0), some 1, none⟩, []⟩,
  ⟨⟨.mv (.const .nilf), some 2, none⟩, []⟩]
def r44_1 : List XLine := [⟨⟨.mkfunc 65 [] [(.slot 1)], some 3, none⟩, []⟩,
  ⟨⟨.mv (.slot 3), some 2, none⟩, []⟩]
def xf44 : XFunc := ⟨(.seq (.region false r44_0)
  (.seq (.region false r44_1)
  .ret)),
  [.tmp 2]⟩
theorem xf44_ok : compFunc Try.prog Try.f44 = some xf44 := by kernel_rfl
/- slices.AppendSeq[[]threshing/api.Lit,threshing/api.Lit] -/
def r45_0 : List XLine := [⟨⟨.box (.slot 0), some 2, none⟩, []⟩,
  ⟨⟨.mv (.const .nils), some 4, none⟩, []⟩]
def r45_1 : List XLine := [⟨⟨.mv (.slot 1), some 6, none⟩, []⟩]
def r45_2 : List XLine := [⟨⟨.mv (.slot 7), some 5, none⟩, []⟩]
def r45_3 : List XLine := [⟨⟨.load false 1 (.slot 2), some 8, none⟩, []⟩,
  ⟨⟨.mv (.slot 5), some 9, none⟩, []⟩,
  ⟨⟨.bslice 1 [(.int .i32 (.ofNat 0))] [(0, 1, (.slot 9))] 1, some 10, none⟩, []⟩,
  ⟨⟨.append 1 4 (.slot 8) (.slot 10), some 11, none⟩, []⟩,
  ⟨⟨.store 1 (.slot 2) (.slot 11), none, none⟩, []⟩]
def r45_4 : List XLine := [⟨⟨.load false 1 (.slot 2), some 12, none⟩, []⟩,
  ⟨⟨.mv (.slot 12), some 4, none⟩, []⟩]
def xf45 : XFunc := ⟨(.seq (.region false r45_0)
  (.seq (.seq (.region false r45_1)
  (.block 0 (.rangeFunc (.slot 6) [7] (.region false r45_2)
  (.block 1 (.region false r45_3)))))
  (.seq (.region false r45_4)
  .ret))),
  [.tmp 4]⟩
theorem xf45_ok : compFunc Try.prog Try.f45 = some xf45 := by kernel_rfl
/- maps.Keys[threshing/condition.set,threshing/api.Lit,bool]$1 -/
def r46_0 : List XLine := [⟨⟨.load false 1 (.slot 1), some 4, none⟩, []⟩,
  ⟨⟨.range .i32 (.slot 4), some 5, none⟩, []⟩]
def r46_1 : List XLine := [⟨⟨.next (.slot 5), some 6, none⟩, []⟩,
  ⟨⟨.extract (.slot 6) 0, some 7, none⟩, []⟩]
def r46_2 : List XLine := [⟨⟨.entry (.slot 5), some 8, none⟩, []⟩,
  ⟨⟨.extract (.slot 8) 0, some 9, none⟩, []⟩,
  ⟨⟨.mv (.slot 9), some 3, none⟩, []⟩]
def r46_3 : List XLine := [⟨⟨.mv (.slot 0), some 10, none⟩, []⟩,
  ⟨⟨.mv (.slot 3), some 11, none⟩, []⟩,
  ⟨⟨.call (.slot 10) [(.slot 11)], some 12, none⟩, []⟩,
  ⟨⟨.un .not (.slot 12), some 13, none⟩, []⟩]
def xf46 : XFunc := ⟨(.seq (.region false r46_0)
  (.block 0 (.loop (.seq (.region false r46_1)
  (.seq (.cond (.slot 7)
  .skip
  (.exit 0))
  (.block 1 (.seq (.region false r46_2)
  (.seq (.region false r46_3)
  (.cond (.slot 13)
  .ret
  .skip))))))))),
  []⟩
theorem xf46_ok : compFunc Try.prog Try.f46 = some xf46 := by kernel_rfl
/- threshing/base.both -/
def r47_0 : List XLine := [⟨⟨.box (.slot 0), some 1, none⟩, []⟩,
  ⟨⟨.mv (.const (.bool false)), some 2, none⟩, []⟩]
def r47_1 : List XLine := [⟨⟨.load false 1 (.slot 1), some 3, none⟩, []⟩,
  ⟨⟨.mkfunc 66 [] [(.slot 1)], some 4, none⟩, []⟩,
  ⟨⟨.call (.const (.func 50 [] [])) [(.slot 3), (.slot 4)], some 5, none⟩, []⟩,
  ⟨⟨.mv (.slot 5), some 2, none⟩, []⟩]
def xf47 : XFunc := ⟨(.seq (.region false r47_0)
  (.seq (.region false r47_1)
  .ret)),
  [.tmp 2]⟩
theorem xf47_ok : compFunc Try.prog Try.f47 = some xf47 := by kernel_rfl
/- (*threshing/base.Base).remove -/
def r48_0 : List XLine := [⟨⟨.box (.slot 1), some 3, none⟩, []⟩,
  ⟨⟨.mv (.const (.int .i64 (.ofNat 0))), some 4, none⟩, []⟩]
def r48_1 : List XLine := [⟨⟨.mv (.slot 0), some 7, none⟩, []⟩,
  ⟨⟨.call (.const (.func 26 [] [])) [(.slot 7)], some 8, none⟩, []⟩]
def r48_2 : List XLine := [⟨⟨.mv (.const (.int .i64 (.ofNat 3))), some 4, none⟩, []⟩]
def r48_3 : List XLine := [⟨⟨.mv (.slot 0), some 9, none⟩, []⟩,
  ⟨⟨.nilCheck (.slot 9), some 10, none⟩, []⟩,
  ⟨⟨.faddr 1 (.slot 10), some 11, none⟩, []⟩,
  ⟨⟨.load false 1 (.slot 11), some 12, none⟩, []⟩,
  ⟨⟨.faddr 0 (.slot 3), some 13, none⟩, []⟩,
  ⟨⟨.load false 1 (.slot 13), some 14, none⟩, []⟩,
  ⟨⟨.delete .i64 (.slot 12) (.slot 14), none, none⟩, []⟩]
def r48_4 : List XLine := [⟨⟨.mv (.slot 0), some 15, none⟩, []⟩,
  ⟨⟨.nilCheck (.slot 15), some 16, none⟩, []⟩,
  ⟨⟨.faddr 3 (.slot 16), some 17, none⟩, []⟩,
  ⟨⟨.load false 1 (.slot 17), some 18, none⟩, []⟩,
  ⟨⟨.faddr 0 (.slot 3), some 19, none⟩, []⟩,
  ⟨⟨.load false 1 (.slot 19), some 20, none⟩, []⟩,
  ⟨⟨.delete .i64 (.slot 18) (.slot 20), none, none⟩, []⟩]
def r48_5 : List XLine := [⟨⟨.faddr 1 (.slot 3), some 21, none⟩, []⟩,
  ⟨⟨.load false 1 (.slot 21), some 22, none⟩, []⟩,
  ⟨⟨.len .slice (.slot 22), some 23, none⟩, []⟩,
  ⟨⟨.mv (.const (.int .i64 (.ofNat 0))), some 24, none⟩, []⟩]
def r48_6 : List XLine := [⟨⟨.bin .lss 3 .num (.slot 24) (.slot 23), some 25, none⟩, []⟩]
def r48_7 : List XLine := [⟨⟨.iaddr 1 (.slot 22) (.slot 24), some 26, none⟩, []⟩,
  ⟨⟨.load false 1 (.slot 26), some 27, none⟩, []⟩,
  ⟨⟨.mv (.slot 27), some 6, none⟩, []⟩]
def r48_8 : List XLine := [⟨⟨.mv (.slot 0), some 28, none⟩, []⟩,
  ⟨⟨.nilCheck (.slot 28), some 29, none⟩, []⟩,
  ⟨⟨.faddr 2 (.slot 29), some 30, none⟩, []⟩,
  ⟨⟨.load false 1 (.slot 30), some 31, none⟩, []⟩,
  ⟨⟨.mv (.slot 6), some 32, none⟩, []⟩,
  ⟨⟨.lookup .i32 .nilm (.slot 31) (.slot 32) false, some 33, none⟩, []⟩,
  ⟨⟨.faddr 0 (.slot 3), some 34, none⟩, []⟩,
  ⟨⟨.load false 1 (.slot 34), some 35, none⟩, []⟩,
  ⟨⟨.delete .i64 (.slot 33) (.slot 35), none, none⟩, []⟩]
def r48_9 : List XLine := [⟨⟨.bin .add 3 .num (.slot 24) (.const (.int .i64 (.ofNat 1))), some 36, none⟩, []⟩,
  ⟨⟨.mv (.slot 36), some 24, none⟩, []⟩]
def r48_10 : List XLine := [⟨⟨.mv (.slot 0), some 37, none⟩, []⟩,
  ⟨⟨.mv (.slot 0), some 38, none⟩, []⟩,
  ⟨⟨.nilCheck (.slot 38), some 39, none⟩, []⟩,
  ⟨⟨.faddr 5 (.slot 39), some 40, none⟩, []⟩,
  ⟨⟨.load false 1 (.slot 40), some 41, none⟩, []⟩,
  ⟨⟨.mv (.slot 0), some 42, none⟩, []⟩,
  ⟨⟨.nilCheck (.slot 42), some 43, none⟩, []⟩,
  ⟨⟨.faddr 4 (.slot 43), some 44, none⟩, []⟩,
  ⟨⟨.load false 1 (.slot 44), some 45, none⟩, []⟩,
  ⟨⟨.faddr 0 (.slot 3), some 46, none⟩, []⟩,
  ⟨⟨.load false 1 (.slot 46), some 47, none⟩, []⟩,
  ⟨⟨.bslice 1 [(.int .i64 (.ofNat 0))] [(0, 1, (.slot 47))] 1, some 48, none⟩, [⟨.load false 1 (.slot 40), some 41, none⟩, ⟨.load false 1 (.slot 44), some 45, none⟩]⟩,
  ⟨⟨.build [(.int .u8 (.ofNat 0)), (.int .i64 (.ofNat 0)), .nils, .nils] [(0, 1, (.const (.int .u8 (.ofNat 2)))), (1, 1, (.slot 45)), (3, 1, (.slot 48))], some 49, none⟩, []⟩,
  ⟨⟨.bslice 4 [(.int .u8 (.ofNat 0)), (.int .i64 (.ofNat 0)), .nils, .nils] [(0, 4, (.slot 49))] 1, some 50, none⟩, [⟨.load false 1 (.slot 40), some 41, none⟩]⟩,
  ⟨⟨.append 4 64 (.slot 41) (.slot 50), some 51, none⟩, []⟩,
  ⟨⟨.nilCheck (.slot 37), some 52, none⟩, []⟩,
  ⟨⟨.faddr 5 (.slot 52), some 53, none⟩, []⟩,
  ⟨⟨.store 1 (.slot 53) (.slot 51), none, none⟩, []⟩]
def r48_11 : List XLine := [⟨⟨.mv (.const (.int .i64 (.ofNat 0))), some 4, none⟩, []⟩]
def xf48 : XFunc := ⟨(.seq (.region false r48_0)
  (.seq (.seq (.region false r48_1)
  (.cond (.slot 8)
  (.seq (.region false r48_2)
  .ret)
  .skip))
  (.seq (.region true r48_3)
  (.seq (.region true r48_4)
  (.seq (.seq (.region false r48_5)
  (.block 0 (.loop (.seq (.region false r48_6)
  (.seq (.cond (.slot 25)
  .skip
  (.exit 0))
  (.seq (.block 1 (.seq (.region false r48_7)
  (.region true r48_8)))
  (.region false r48_9)))))))
  (.seq (.region true r48_10)
  (.seq (.region false r48_11)
  .ret))))))),
  [.tmp 4]⟩
theorem xf48_ok : compFunc Try.prog Try.f48 = some xf48 := by kernel_rfl
/- slices.Grow[threshing/api.Clause,threshing/api.Lit] -/
def r49_0 : List XLine := [⟨⟨.mv (.const .nils), some 4, none⟩, []⟩]
def r49_1 : List XLine := [⟨⟨.mv (.slot 1), some 5, none⟩, []⟩,
  ⟨⟨.bin .lss 3 .num (.slot 5) (.const (.int .i64 (.ofNat 0))), some 6, none⟩, []⟩]
def r49_2 : List XLine := [⟨⟨.mkif 9 (.const (.str ⟨⟨[99, 97, 110, 110, 111, 116, 32, 98, 101, 32, 110, 101, 103, 97, 116, 105, 118, 101]⟩⟩)), some 7, none⟩, []⟩,
  ⟨⟨.bad, none, none⟩, []⟩]
def r49_3 : List XLine := [⟨⟨.mv (.slot 1), some 8, none⟩, []⟩,
  ⟨⟨.mv (.slot 0), some 9, none⟩, []⟩,
  ⟨⟨.cap (.slot 9), some 10, none⟩, []⟩,
  ⟨⟨.mv (.slot 0), some 11, none⟩, []⟩,
  ⟨⟨.len .slice (.slot 11), some 12, none⟩, []⟩,
  ⟨⟨.bin .sub 3 .num (.slot 10) (.slot 12), some 13, none⟩, []⟩,
  ⟨⟨.bin .sub 3 .num (.slot 8) (.slot 13), some 14, none⟩, []⟩,
  ⟨⟨.mv (.slot 14), some 1, none⟩, []⟩]
def r49_4 : List XLine := [⟨⟨.mv (.slot 1), some 15, none⟩, []⟩,
  ⟨⟨.bin .gtr 3 .num (.slot 15) (.const (.int .i64 (.ofNat 0))), some 16, none⟩, []⟩]
def r49_5 : List XLine := [⟨⟨.mv (.slot 0), some 17, none⟩, []⟩,
  ⟨⟨.mv (.slot 0), some 18, none⟩, []⟩,
  ⟨⟨.cap (.slot 18), some 19, none⟩, []⟩,
  ⟨⟨.slc 1 (.slot 17) none (some (.slot 19)) none, some 20, none⟩, []⟩,
  ⟨⟨.mv (.slot 1), some 21, none⟩, []⟩,
  ⟨⟨.appendZ 1 4 [(.int .i32 (.ofNat 0))] (.slot 20) (.slot 21), some 22, none⟩, []⟩,
  ⟨⟨.mv (.slot 0), some 23, none⟩, []⟩,
  ⟨⟨.len .slice (.slot 23), some 24, none⟩, []⟩,
  ⟨⟨.slc 1 (.slot 22) none (some (.slot 24)) none, some 25, none⟩, []⟩,
  ⟨⟨.mv (.slot 25), some 0, none⟩, []⟩]
def r49_6 : List XLine := [⟨⟨.mv (.slot 0), some 26, none⟩, []⟩,
  ⟨⟨.mv (.slot 26), some 4, none⟩, []⟩]
def xf49 : XFunc := ⟨(.seq (.region false r49_0)
  (.seq (.seq (.region false r49_1)
  (.cond (.slot 6)
  (.region false r49_2)
  .skip))
  (.seq (.seq (.region false r49_3)
  (.seq (.region false r49_4)
  (.cond (.slot 16)
  (.region false r49_5)
  .skip)))
  (.seq (.region false r49_6)
  .ret)))),
  [.tmp 4]⟩
theorem xf49_ok : compFunc Try.prog Try.f49 = some xf49 := by kernel_rfl
/- slices.ContainsFunc[threshing/api.Clause,threshing/api.Lit] -/
def r50_0 : List XLine := [⟨⟨.mv (.const (.bool false)), some 4, none⟩, []⟩]
def r50_1 : List XLine := [⟨⟨.mv (.slot 0), some 5, none⟩, []⟩,
  ⟨⟨.mv (.slot 1), some 6, none⟩, []⟩,
  ⟨⟨.call (.const (.func 18 [] [])) [(.slot 5), (.slot 6)], some 7, none⟩, []⟩,
  ⟨⟨.bin .geq 3 .num (.slot 7) (.const (.int .i64 (.ofNat 0))), some 8, none⟩, []⟩,
  ⟨⟨.mv (.slot 8), some 4, none⟩, []⟩]
def xf50 : XFunc := ⟨(.seq (.region false r50_0)
  (.seq (.region false r50_1)
  .ret)),
  [.tmp 4]⟩
theorem xf50_ok : compFunc Try.prog Try.f50 = some xf50 := by kernel_rfl
/- (*threshing/base.Base).right$1 -/
def r51_0 : List XLine := [⟨⟨.mv (.const (.bool false)), some 3, none⟩, []⟩]
def r51_1 : List XLine := [⟨⟨.mv (.slot 0), some 4, none⟩, []⟩,
  ⟨⟨.bin .eql 24 .num (.slot 4) (.const (.int .i32 (.ofNat 0))), some 5, none⟩, []⟩,
  ⟨⟨.mv (.slot 5), some 6, none⟩, []⟩,
  ⟨⟨.mv (.slot 0), some 7, some (6, false)⟩, []⟩,
  ⟨⟨.load false 1 (.slot 1), some 9, some (6, false)⟩, []⟩,
  ⟨⟨.nilCheck (.slot 9), some 10, some (6, false)⟩, []⟩,
  ⟨⟨.faddr 0 (.slot 10), some 11, some (6, false)⟩, []⟩,
  ⟨⟨.load false 1 (.slot 11), some 12, some (6, false)⟩, []⟩,
  ⟨⟨.call (.const (.func 52 [] [])) [(.slot 7)], some 8, some (6, false)⟩, [⟨.load false 1 (.slot 1), some 9, some (6, false)⟩, ⟨.load false 1 (.slot 11), some 12, some (6, false)⟩]⟩,
  ⟨⟨.bin .gtr 3 .num (.slot 8) (.slot 12), some 13, some (6, false)⟩, []⟩,
  ⟨⟨.pick (.slot 6) (.const (.bool true)) (.slot 13), some 14, none⟩, []⟩,
  ⟨⟨.mv (.slot 14), some 3, none⟩, []⟩]
def xf51 : XFunc := ⟨(.seq (.region false r51_0)
  (.seq (.region true r51_1)
  .ret)),
  [.tmp 3]⟩
theorem xf51_ok : compFunc Try.prog Try.f51 = some xf51 := by kernel_rfl
/- threshing/cnf.Var -/
def r52_0 : List XLine := [⟨⟨.mv (.const (.int .i64 (.ofNat 0))), some 2, none⟩, []⟩]
def r52_1 : List XLine := [⟨⟨.mv (.slot 0), some 3, none⟩, []⟩,
  ⟨⟨.call (.const (.func 67 [] [])) [(.slot 3)], some 4, none⟩, []⟩,
  ⟨⟨.mv (.slot 4), some 2, none⟩, []⟩]
def xf52 : XFunc := ⟨(.seq (.region false r52_0)
  (.seq (.region false r52_1)
  .ret)),
  [.tmp 2]⟩
theorem xf52_ok : compFunc Try.prog Try.f52 = some xf52 := by kernel_rfl
/- (*threshing/base.Base).follows$1 -/
def r53_0 : List XLine := [⟨⟨.mv (.const (.bool false)), some 3, none⟩, []⟩]
def r53_1 : List XLine := [⟨⟨.load false 1 (.slot 1), some 4, none⟩, []⟩,
  ⟨⟨.mv (.slot 0), some 5, none⟩, []⟩,
  ⟨⟨.mapup .i32 (.slot 4) (.slot 5) (.const (.bool true)), none, none⟩, []⟩]
def r53_2 : List XLine := [⟨⟨.load false 1 (.slot 1), some 6, none⟩, []⟩,
  ⟨⟨.mv (.slot 0), some 7, none⟩, []⟩,
  ⟨⟨.un .neg (.slot 7), some 8, none⟩, []⟩,
  ⟨⟨.lookup .i32 (.bool false) (.slot 6) (.slot 8) false, some 9, none⟩, []⟩,
  ⟨⟨.mv (.slot 9), some 3, none⟩, []⟩]
def xf53 : XFunc := ⟨(.seq (.region false r53_0)
  (.seq (.region false r53_1)
  (.seq (.region false r53_2)
  .ret))),
  [.tmp 3]⟩
theorem xf53_ok : compFunc Try.prog Try.f53 = some xf53 := by kernel_rfl
/- slices.Collect[int64] -/
def r54_0 : List XLine := [⟨⟨.mv (.const .nils), some 2, none⟩, []⟩]
def r54_1 : List XLine := [⟨⟨.mv (.slot 0), some 3, none⟩, []⟩,
  ⟨⟨.call (.const (.func 68 [] [])) [(.const .nils), (.slot 3)], some 4, none⟩, []⟩,
  ⟨⟨.mv (.slot 4), some 2, none⟩, []⟩]
def xf54 : XFunc := ⟨(.seq (.region false r54_0)
  (.seq (.region false r54_1)
  .ret)),
  [.tmp 2]⟩
theorem xf54_ok : compFunc Try.prog Try.f54 = some xf54 := by kernel_rfl
/- slices.Sort[[]int64,int64] -/
def r55_0 : List XLine := [⟨⟨.mv (.slot 0), some 3, none⟩, []⟩,
  ⟨⟨.len .slice (.slot 3), some 4, none⟩, []⟩,
  ⟨⟨.mv (.slot 4), some 2, none⟩, []⟩]
def r55_1 : List XLine := [⟨⟨.mv (.slot 0), some 5, none⟩, []⟩,
  ⟨⟨.mv (.slot 2), some 6, none⟩, []⟩,
  ⟨⟨.mv (.slot 2), some 7, none⟩, []⟩,
  ⟨⟨.conv .u64 (.slot 7), some 8, none⟩, []⟩,
  ⟨⟨.call (.const (.func 58 [] [])) [(.slot 8)], some 9, none⟩, []⟩,
  ⟨⟨.call (.const (.func 69 [] [])) [(.slot 5), (.const (.int .i64 (.ofNat 0))), (.slot 6), (.slot 9)], some 10, none⟩, []⟩]
def xf55 : XFunc := ⟨(.seq (.region false r55_0)
  (.region false r55_1)),
  []⟩
theorem xf55_ok : compFunc Try.prog Try.f55 = some xf55 := by kernel_rfl
/- maps.Keys[map[int64]threshing/api.Entry,int64,threshing/api.Entry]$1 -/
def r56_0 : List XLine := [⟨⟨.load false 1 (.slot 1), some 4, none⟩, []⟩,
  ⟨⟨.range .i64 (.slot 4), some 5, none⟩, []⟩]
def r56_1 : List XLine := [⟨⟨.next (.slot 5), some 6, none⟩, []⟩,
  ⟨⟨.extract (.slot 6) 0, some 7, none⟩, []⟩]
def r56_2 : List XLine := [⟨⟨.entry (.slot 5), some 8, none⟩, []⟩,
  ⟨⟨.extract (.slot 8) 0, some 9, none⟩, []⟩,
  ⟨⟨.mv (.slot 9), some 3, none⟩, []⟩]
def r56_3 : List XLine := [⟨⟨.mv (.slot 0), some 10, none⟩, []⟩,
  ⟨⟨.mv (.slot 3), some 11, none⟩, []⟩,
  ⟨⟨.call (.slot 10) [(.slot 11)], some 12, none⟩, []⟩,
  ⟨⟨.un .not (.slot 12), some 13, none⟩, []⟩]
def xf56 : XFunc := ⟨(.seq (.region false r56_0)
  (.block 0 (.loop (.seq (.region false r56_1)
  (.seq (.cond (.slot 7)
  .skip
  (.exit 0))
  (.block 1 (.seq (.region false r56_2)
  (.seq (.region false r56_3)
  (.cond (.slot 13)
  .ret
  .skip))))))))),
  []⟩
theorem xf56_ok : compFunc Try.prog Try.f56 = some xf56 := by kernel_rfl
/- slices.pdqsortCmpFunc[threshing/api.Lit] -/
def r57_0 : List XLine := [⟨⟨.mv (.const (.bool true)), some 10, none⟩, []⟩]
def r57_1 : List XLine := [⟨⟨.mv (.const (.bool true)), some 11, none⟩, []⟩]
def r57_2 : List XLine := [⟨⟨.mv (.slot 2), some 21, none⟩, []⟩,
  ⟨⟨.mv (.slot 1), some 22, none⟩, []⟩,
  ⟨⟨.bin .sub 3 .num (.slot 21) (.slot 22), some 23, none⟩, []⟩,
  ⟨⟨.mv (.slot 23), some 12, none⟩, []⟩]
def r57_3 : List XLine := [⟨⟨.mv (.slot 12), some 24, none⟩, []⟩,
  ⟨⟨.bin .leq 3 .num (.slot 24) (.const (.int .i64 (.ofNat 12))), some 25, none⟩, []⟩]
def r57_4 : List XLine := [⟨⟨.mv (.slot 0), some 26, none⟩, []⟩,
  ⟨⟨.mv (.slot 1), some 27, none⟩, []⟩,
  ⟨⟨.mv (.slot 2), some 28, none⟩, []⟩,
  ⟨⟨.mv (.slot 4), some 29, none⟩, []⟩,
  ⟨⟨.call (.const (.func 70 [] [])) [(.slot 26), (.slot 27), (.slot 28), (.slot 29)], some 30, none⟩, []⟩]
def r57_5 : List XLine := [⟨⟨.mv (.slot 3), some 31, none⟩, []⟩,
  ⟨⟨.bin .eql 3 .num (.slot 31) (.const (.int .i64 (.ofNat 0))), some 32, none⟩, []⟩]
def r57_6 : List XLine := [⟨⟨.mv (.slot 0), some 33, none⟩, []⟩,
  ⟨⟨.mv (.slot 1), some 34, none⟩, []⟩,
  ⟨⟨.mv (.slot 2), some 35, none⟩, []⟩,
  ⟨⟨.mv (.slot 4), some 36, none⟩, []⟩,
  ⟨⟨.call (.const (.func 71 [] [])) [(.slot 33), (.slot 34), (.slot 35), (.slot 36)], some 37, none⟩, []⟩]
def r57_7 : List XLine := [⟨⟨.mv (.slot 10), some 38, none⟩, []⟩,
  ⟨⟨.un .not (.slot 38), some 39, none⟩, []⟩]
def r57_8 : List XLine := [⟨⟨.mv (.slot 0), some 40, none⟩, []⟩,
  ⟨⟨.mv (.slot 1), some 41, none⟩, []⟩,
  ⟨⟨.mv (.slot 2), some 42, none⟩, []⟩,
  ⟨⟨.mv (.slot 4), some 43, none⟩, []⟩,
  ⟨⟨.call (.const (.func 72 [] [])) [(.slot 40), (.slot 41), (.slot 42), (.slot 43)], some 44, none⟩, []⟩]
def r57_9 : List XLine := [⟨⟨.mv (.slot 3), some 45, none⟩, []⟩,
  ⟨⟨.bin .sub 3 .num (.slot 45) (.const (.int .i64 (.ofNat 1))), some 46, none⟩, []⟩,
  ⟨⟨.mv (.slot 46), some 3, none⟩, []⟩]
def r57_10 : List XLine := [⟨⟨.mv (.slot 0), some 48, none⟩, []⟩,
  ⟨⟨.mv (.slot 1), some 49, none⟩, []⟩,
  ⟨⟨.mv (.slot 2), some 50, none⟩, []⟩,
  ⟨⟨.mv (.slot 4), some 51, none⟩, []⟩,
  ⟨⟨.call (.const (.func 73 [] [])) [(.slot 48), (.slot 49), (.slot 50), (.slot 51)], some 52, none⟩, []⟩,
  ⟨⟨.mv (.slot 52), some 47, none⟩, []⟩,
  ⟨⟨.extract (.slot 47) 0, some 53, none⟩, []⟩,
  ⟨⟨.extract (.slot 47) 1, some 54, none⟩, []⟩,
  ⟨⟨.mv (.slot 53), some 13, none⟩, []⟩,
  ⟨⟨.mv (.slot 54), some 14, none⟩, []⟩]
def r57_11 : List XLine := [⟨⟨.mv (.slot 14), some 55, none⟩, []⟩,
  ⟨⟨.bin .eql 118 .num (.slot 55) (.const (.int .i64 (.ofNat 2))), some 56, none⟩, []⟩]
def r57_12 : List XLine := [⟨⟨.mv (.slot 0), some 57, none⟩, []⟩,
  ⟨⟨.mv (.slot 1), some 58, none⟩, []⟩,
  ⟨⟨.mv (.slot 2), some 59, none⟩, []⟩,
  ⟨⟨.mv (.slot 4), some 60, none⟩, []⟩,
  ⟨⟨.call (.const (.func 74 [] [])) [(.slot 57), (.slot 58), (.slot 59), (.slot 60)], some 61, none⟩, []⟩]
def r57_13 : List XLine := [⟨⟨.mv (.slot 2), some 62, none⟩, []⟩,
  ⟨⟨.bin .sub 3 .num (.slot 62) (.const (.int .i64 (.ofNat 1))), some 63, none⟩, []⟩,
  ⟨⟨.mv (.slot 13), some 64, none⟩, []⟩,
  ⟨⟨.mv (.slot 1), some 65, none⟩, []⟩,
  ⟨⟨.bin .sub 3 .num (.slot 64) (.slot 65), some 66, none⟩, []⟩,
  ⟨⟨.bin .sub 3 .num (.slot 63) (.slot 66), some 67, none⟩, []⟩,
  ⟨⟨.mv (.slot 67), some 13, none⟩, []⟩]
def r57_14 : List XLine := [⟨⟨.mv (.const (.int .i64 (.ofNat 1))), some 14, none⟩, []⟩]
def r57_15 : List XLine := [⟨⟨.mv (.slot 10), some 68, none⟩, []⟩,
  ⟨⟨.mv (.slot 68), some 69, none⟩, []⟩,
  ⟨⟨.mv (.slot 11), some 70, some (69, true)⟩, []⟩,
  ⟨⟨.pick (.slot 69) (.slot 70) (.const (.bool false)), some 71, none⟩, []⟩,
  ⟨⟨.mv (.slot 71), some 72, none⟩, []⟩,
  ⟨⟨.mv (.slot 14), some 73, some (72, true)⟩, []⟩,
  ⟨⟨.bin .eql 118 .num (.slot 73) (.const (.int .i64 (.ofNat 1))), some 74, some (72, true)⟩, []⟩,
  ⟨⟨.pick (.slot 72) (.slot 74) (.const (.bool false)), some 75, none⟩, []⟩]
def r57_16 : List XLine := [⟨⟨.mv (.slot 0), some 76, none⟩, []⟩,
  ⟨⟨.mv (.slot 1), some 77, none⟩, []⟩,
  ⟨⟨.mv (.slot 2), some 78, none⟩, []⟩,
  ⟨⟨.mv (.slot 4), some 79, none⟩, []⟩,
  ⟨⟨.call (.const (.func 75 [] [])) [(.slot 76), (.slot 77), (.slot 78), (.slot 79)], some 80, none⟩, []⟩]
def r57_17 : List XLine := [⟨⟨.mv (.slot 1), some 81, none⟩, []⟩,
  ⟨⟨.bin .gtr 3 .num (.slot 81) (.const (.int .i64 (.ofNat 0))), some 82, none⟩, []⟩,
  ⟨⟨.mv (.slot 82), some 83, none⟩, []⟩,
  ⟨⟨.mv (.slot 4), some 84, some (83, true)⟩, []⟩,
  ⟨⟨.mv (.slot 0), some 85, some (83, true)⟩, []⟩,
  ⟨⟨.mv (.slot 1), some 86, some (83, true)⟩, []⟩,
  ⟨⟨.bin .sub 3 .num (.slot 86) (.const (.int .i64 (.ofNat 1))), some 87, some (83, true)⟩, []⟩,
  ⟨⟨.iaddr 1 (.slot 85) (.slot 87), some 88, some (83, true)⟩, []⟩,
  ⟨⟨.load false 1 (.slot 88), some 89, some (83, true)⟩, []⟩,
  ⟨⟨.mv (.slot 0), some 90, some (83, true)⟩, []⟩,
  ⟨⟨.mv (.slot 13), some 91, some (83, true)⟩, []⟩,
  ⟨⟨.iaddr 1 (.slot 90) (.slot 91), some 92, some (83, true)⟩, []⟩,
  ⟨⟨.load false 1 (.slot 92), some 93, some (83, true)⟩, []⟩,
  ⟨⟨.call (.slot 84) [(.slot 89), (.slot 93)], some 94, some (83, true)⟩, []⟩,
  ⟨⟨.bin .lss 3 .num (.slot 94) (.const (.int .i64 (.ofNat 0))), some 95, some (83, true)⟩, []⟩,
  ⟨⟨.un .not (.slot 95), some 96, some (83, true)⟩, []⟩,
  ⟨⟨.pick (.slot 83) (.slot 96) (.const (.bool false)), some 97, none⟩, []⟩]
def r57_18 : List XLine := [⟨⟨.mv (.slot 0), some 98, none⟩, []⟩,
  ⟨⟨.mv (.slot 1), some 99, none⟩, []⟩,
  ⟨⟨.mv (.slot 2), some 100, none⟩, []⟩,
  ⟨⟨.mv (.slot 13), some 101, none⟩, []⟩,
  ⟨⟨.mv (.slot 4), some 102, none⟩, []⟩,
  ⟨⟨.call (.const (.func 76 [] [])) [(.slot 98), (.slot 99), (.slot 100), (.slot 101), (.slot 102)], some 103, none⟩, []⟩,
  ⟨⟨.mv (.slot 103), some 15, none⟩, []⟩]
def r57_19 : List XLine := [⟨⟨.mv (.slot 15), some 104, none⟩, []⟩,
  ⟨⟨.mv (.slot 104), some 1, none⟩, []⟩]
def r57_20 : List XLine := [⟨⟨.mv (.slot 0), some 106, none⟩, []⟩,
  ⟨⟨.mv (.slot 1), some 107, none⟩, []⟩,
  ⟨⟨.mv (.slot 2), some 108, none⟩, []⟩,
  ⟨⟨.mv (.slot 13), some 109, none⟩, []⟩,
  ⟨⟨.mv (.slot 4), some 110, none⟩, []⟩,
  ⟨⟨.call (.const (.func 77 [] [])) [(.slot 106), (.slot 107), (.slot 108), (.slot 109), (.slot 110)], some 111, none⟩, []⟩,
  ⟨⟨.mv (.slot 111), some 105, none⟩, []⟩,
  ⟨⟨.extract (.slot 105) 0, some 112, none⟩, []⟩,
  ⟨⟨.extract (.slot 105) 1, some 113, none⟩, []⟩,
  ⟨⟨.mv (.slot 112), some 16, none⟩, []⟩,
  ⟨⟨.mv (.slot 113), some 17, none⟩, []⟩]
def r57_21 : List XLine := [⟨⟨.mv (.slot 17), some 114, none⟩, []⟩,
  ⟨⟨.mv (.slot 114), some 11, none⟩, []⟩]
def r57_22 : List XLine := [⟨⟨.mv (.slot 16), some 115, none⟩, []⟩,
  ⟨⟨.mv (.slot 1), some 116, none⟩, []⟩,
  ⟨⟨.bin .sub 3 .num (.slot 115) (.slot 116), some 117, none⟩, []⟩,
  ⟨⟨.mv (.slot 2), some 118, none⟩, []⟩,
  ⟨⟨.mv (.slot 16), some 119, none⟩, []⟩,
  ⟨⟨.bin .sub 3 .num (.slot 118) (.slot 119), some 120, none⟩, []⟩,
  ⟨⟨.mv (.slot 117), some 18, none⟩, []⟩,
  ⟨⟨.mv (.slot 120), some 19, none⟩, []⟩]
def r57_23 : List XLine := [⟨⟨.mv (.slot 12), some 121, none⟩, []⟩,
  ⟨⟨.bin .quo 3 .num (.slot 121) (.const (.int .i64 (.ofNat 8))), some 122, none⟩, []⟩,
  ⟨⟨.mv (.slot 122), some 20, none⟩, []⟩]
def r57_24 : List XLine := [⟨⟨.mv (.slot 18), some 123, none⟩, []⟩,
  ⟨⟨.mv (.slot 19), some 124, none⟩, []⟩,
  ⟨⟨.bin .lss 3 .num (.slot 123) (.slot 124), some 125, none⟩, []⟩]
def r57_25 : List XLine := [⟨⟨.mv (.slot 18), some 126, none⟩, []⟩,
  ⟨⟨.mv (.slot 20), some 127, none⟩, []⟩,
  ⟨⟨.bin .geq 3 .num (.slot 126) (.slot 127), some 128, none⟩, []⟩,
  ⟨⟨.mv (.slot 128), some 10, none⟩, []⟩]
def r57_26 : List XLine := [⟨⟨.mv (.slot 0), some 129, none⟩, []⟩,
  ⟨⟨.mv (.slot 1), some 130, none⟩, []⟩,
  ⟨⟨.mv (.slot 16), some 131, none⟩, []⟩,
  ⟨⟨.mv (.slot 3), some 132, none⟩, []⟩,
  ⟨⟨.mv (.slot 4), some 133, none⟩, []⟩,
  ⟨⟨.call (.const (.func 57 [] [])) [(.slot 129), (.slot 130), (.slot 131), (.slot 132), (.slot 133)], some 134, none⟩, []⟩]
def r57_27 : List XLine := [⟨⟨.mv (.slot 16), some 135, none⟩, []⟩,
  ⟨⟨.bin .add 3 .num (.slot 135) (.const (.int .i64 (.ofNat 1))), some 136, none⟩, []⟩,
  ⟨⟨.mv (.slot 136), some 1, none⟩, []⟩]
def r57_28 : List XLine := [⟨⟨.mv (.slot 19), some 137, none⟩, []⟩,
  ⟨⟨.mv (.slot 20), some 138, none⟩, []⟩,
  ⟨⟨.bin .geq 3 .num (.slot 137) (.slot 138), some 139, none⟩, []⟩,
  ⟨⟨.mv (.slot 139), some 10, none⟩, []⟩]
def r57_29 : List XLine := [⟨⟨.mv (.slot 0), some 140, none⟩, []⟩,
  ⟨⟨.mv (.slot 16), some 141, none⟩, []⟩,
  ⟨⟨.bin .add 3 .num (.slot 141) (.const (.int .i64 (.ofNat 1))), some 142, none⟩, []⟩,
  ⟨⟨.mv (.slot 2), some 143, none⟩, []⟩,
  ⟨⟨.mv (.slot 3), some 144, none⟩, []⟩,
  ⟨⟨.mv (.slot 4), some 145, none⟩, []⟩,
  ⟨⟨.call (.const (.func 57 [] [])) [(.slot 140), (.slot 142), (.slot 143), (.slot 144), (.slot 145)], some 146, none⟩, []⟩]
def r57_30 : List XLine := [⟨⟨.mv (.slot 16), some 147, none⟩, []⟩,
  ⟨⟨.mv (.slot 147), some 2, none⟩, []⟩]
def xf57 : XFunc := ⟨(.seq (.region false r57_0)
  (.seq (.region false r57_1)
  (.block 0 (.loop (.block 1 (.seq (.region false r57_2)
  (.seq (.seq (.region false r57_3)
  (.cond (.slot 25)
  (.seq (.region false r57_4)
  .ret)
  .skip))
  (.seq (.seq (.region false r57_5)
  (.cond (.slot 32)
  (.seq (.region false r57_6)
  .ret)
  .skip))
  (.seq (.seq (.region false r57_7)
  (.cond (.slot 39)
  (.seq (.region false r57_8)
  (.region false r57_9))
  .skip))
  (.seq (.region false r57_10)
  (.seq (.seq (.region false r57_11)
  (.cond (.slot 56)
  (.seq (.region false r57_12)
  (.seq (.region false r57_13)
  (.region false r57_14)))
  .skip))
  (.seq (.seq (.region false r57_15)
  (.cond (.slot 75)
  (.seq (.region false r57_16)
  (.cond (.slot 80)
  .ret
  .skip))
  .skip))
  (.seq (.seq (.region true r57_17)
  (.cond (.slot 97)
  (.seq (.region false r57_18)
  (.seq (.region false r57_19)
  (.exit 1)))
  .skip))
  (.seq (.region false r57_20)
  (.seq (.region false r57_21)
  (.seq (.region false r57_22)
  (.seq (.region false r57_23)
  (.seq (.region false r57_24)
  (.cond (.slot 125)
  (.seq (.region false r57_25)
  (.seq (.region false r57_26)
  (.region false r57_27)))
  (.seq (.region false r57_28)
  (.seq (.region false r57_29)
  (.region false r57_30)))))))))))))))))))))),
  []⟩
theorem xf57_ok : compFunc Try.prog Try.f57 = some xf57 := by kernel_rfl
end Go.Proofs.Ytogolfiljijhlaa

/- The functions of the program in X's code, printed by a program of ours; each is what the program's own is turned to. -/
import Derived.Test.YtdegagpgjejomaaGreatProg
import Derived.Test.YtdegagpgjejomaaGreatXc
import Derived.KernelRfl
namespace Go.Proofs.YtdegagpgjejomaaGreat
open Go.Xr
/-- gosem.cut.init -/
def xf2 : XFunc := ⟨(.region false [⟨⟨.call (.const (.func 1 [] [])) [], some 0, none⟩, []⟩]),
  []⟩
theorem xf2_ok : compFunc Tryz.prog Tryz.f2 = some xf2 := by kernel_rfl
/-- threshing/threshinglaw25.VivifyKnown -/
def xf3 : XFunc := ⟨(.seq (.region false [⟨⟨.mv (.const (.bool false)), some 0, none⟩, []⟩])
  (.seq (.region false [⟨⟨.bslice 1 [(.int .i32 (.ofNat 0)), (.int .i32 (.ofNat 0)), (.int .i32 (.ofNat 0))] [(0, 1, (.const (.int .i32 (.ofNat 1)))), (1, 1, (.const (.int .i32 (.ofNat 2)))), (2, 1, (.const (.int .i32 (.ofNat 3))))] 3, some 29, none⟩, []⟩,
    ⟨⟨.bslice 1 [(.int .i32 (.ofNat 0)), (.int .i32 (.ofNat 0))] [(0, 1, (.const (.int .i32 (.ofNat 1)))), (1, 1, (.const (.int .i32 (.ofNat 2))))] 2, some 30, none⟩, []⟩,
    ⟨⟨.bslice 1 [.nils, .nils] [(0, 1, (.slot 29)), (1, 1, (.slot 30))] 2, some 31, none⟩, []⟩,
    ⟨⟨.call (.const (.func 4 [] [])) [(.slot 31)], some 32, none⟩, []⟩,
    ⟨⟨.mv (.slot 32), some 1, none⟩, []⟩])
  (.seq (.region false [⟨⟨.mv (.slot 1), some 34, none⟩, []⟩,
    ⟨⟨.call (.const (.func 5 [] [])) [(.slot 34), (.const (.int .i64 (.ofNat 9)))], some 35, none⟩, []⟩,
    ⟨⟨.mv (.slot 35), some 33, none⟩, []⟩,
    ⟨⟨.extract (.slot 33) 0, some 36, none⟩, []⟩,
    ⟨⟨.extract (.slot 33) 1, some 37, none⟩, []⟩,
    ⟨⟨.mv (.slot 36), some 2, none⟩, []⟩,
    ⟨⟨.mv (.slot 37), some 3, none⟩, []⟩])
  (.seq (.region false [⟨⟨.mv (.slot 1), some 39, none⟩, []⟩,
    ⟨⟨.call (.const (.func 6 [] [])) [(.slot 39), (.const (.int .i64 (.ofNat 3)))], some 40, none⟩, []⟩,
    ⟨⟨.mv (.slot 40), some 38, none⟩, []⟩,
    ⟨⟨.extract (.slot 38) 0, some 41, none⟩, []⟩,
    ⟨⟨.extract (.slot 38) 1, some 42, none⟩, []⟩,
    ⟨⟨.alloc [(.int .i64 (.ofNat 0)), .nils, (.bool false)], some 4, none⟩, []⟩,
    ⟨⟨.store 3 (.slot 4) (.slot 41), none, none⟩, []⟩,
    ⟨⟨.mv (.slot 42), some 5, none⟩, []⟩])
  (.seq (.region false [⟨⟨.mv (.slot 1), some 43, none⟩, []⟩,
    ⟨⟨.call (.const (.func 7 [] [])) [(.slot 43)], some 44, none⟩, []⟩,
    ⟨⟨.mv (.slot 44), some 6, none⟩, []⟩])
  (.seq (.region false [⟨⟨.mv (.slot 2), some 45, none⟩, []⟩,
    ⟨⟨.bin .eql 3 .num (.slot 45) (.const (.int .i64 (.ofNat 1))), some 46, none⟩, []⟩,
    ⟨⟨.mv (.slot 46), some 47, none⟩, []⟩,
    ⟨⟨.mv (.slot 3), some 48, some (47, true)⟩, []⟩,
    ⟨⟨.bin .eql 27 .num (.slot 48) (.const (.int .i64 (.ofNat 0))), some 49, some (47, true)⟩, []⟩,
    ⟨⟨.pick (.slot 47) (.slot 49) (.const (.bool false)), some 50, none⟩, []⟩,
    ⟨⟨.mv (.slot 50), some 51, none⟩, []⟩,
    ⟨⟨.mv (.slot 5), some 52, some (51, true)⟩, []⟩,
    ⟨⟨.pick (.slot 51) (.slot 52) (.const (.bool false)), some 53, none⟩, []⟩,
    ⟨⟨.mv (.slot 53), some 54, none⟩, []⟩,
    ⟨⟨.faddr 1 (.slot 4), some 55, some (54, true)⟩, []⟩,
    ⟨⟨.load false 1 (.slot 55), some 56, some (54, true)⟩, []⟩,
    ⟨⟨.bslice 1 [(.int .i32 (.ofNat 0)), (.int .i32 (.ofNat 0))] [(0, 1, (.const (.int .i32 (.ofNat 1)))), (1, 1, (.const (.int .i32 (.ofNat 2))))] 2, some 57, some (54, true)⟩, []⟩,
    ⟨⟨.call (.const (.func 8 [] [])) [(.slot 56), (.slot 57)], some 58, some (54, true)⟩, []⟩,
    ⟨⟨.pick (.slot 54) (.slot 58) (.const (.bool false)), some 59, none⟩, []⟩,
    ⟨⟨.mv (.slot 59), some 60, none⟩, []⟩,
    ⟨⟨.mv (.slot 6), some 61, some (60, true)⟩, []⟩,
    ⟨⟨.len .slice (.slot 61), some 62, some (60, true)⟩, []⟩,
    ⟨⟨.bin .eql 3 .num (.slot 62) (.const (.int .i64 (.ofNat 2))), some 63, some (60, true)⟩, []⟩,
    ⟨⟨.pick (.slot 60) (.slot 63) (.const (.bool false)), some 64, none⟩, []⟩,
    ⟨⟨.mv (.slot 64), some 65, none⟩, []⟩,
    ⟨⟨.mv (.slot 6), some 66, some (65, true)⟩, []⟩,
    ⟨⟨.iaddr 4 (.slot 66) (.const (.int .i64 (.ofNat 0))), some 67, some (65, true)⟩, []⟩,
    ⟨⟨.faddr 3 (.slot 67), some 68, some (65, true)⟩, []⟩,
    ⟨⟨.load false 1 (.slot 68), some 69, some (65, true)⟩, []⟩,
    ⟨⟨.bslice 1 [(.int .i64 (.ofNat 0))] [(0, 1, (.const (.int .i64 (.ofNat 2))))] 1, some 70, some (65, true)⟩, []⟩,
    ⟨⟨.call (.const (.func 9 [] [])) [(.slot 69), (.slot 70)], some 71, some (65, true)⟩, []⟩,
    ⟨⟨.pick (.slot 65) (.slot 71) (.const (.bool false)), some 72, none⟩, []⟩,
    ⟨⟨.mv (.slot 72), some 7, none⟩, []⟩])
  (.seq (.region false [⟨⟨.bslice 1 [(.int .i32 (.ofNat 0)), (.int .i32 (.ofNat 0))] [(0, 1, (.const (.int .i32 (.ofNat 1)))), (1, 1, (.const (.int .i32 (.ofNat 2))))] 2, some 73, none⟩, []⟩,
    ⟨⟨.bslice 1 [(.int .i32 (.ofNat 0)), (.int .i32 (.ofNat 0))] [(0, 1, (.const (.int .i32 (.negSucc 1)))), (1, 1, (.const (.int .i32 (.ofNat 3))))] 2, some 74, none⟩, []⟩,
    ⟨⟨.bslice 1 [(.int .i32 (.ofNat 0)), (.int .i32 (.ofNat 0))] [(0, 1, (.const (.int .i32 (.ofNat 1)))), (1, 1, (.const (.int .i32 (.ofNat 3))))] 2, some 75, none⟩, []⟩,
    ⟨⟨.bslice 1 [.nils, .nils, .nils] [(0, 1, (.slot 73)), (1, 1, (.slot 74)), (2, 1, (.slot 75))] 3, some 76, none⟩, []⟩,
    ⟨⟨.call (.const (.func 4 [] [])) [(.slot 76)], some 77, none⟩, []⟩,
    ⟨⟨.mv (.slot 77), some 8, none⟩, []⟩])
  (.seq (.region false [⟨⟨.mv (.slot 8), some 79, none⟩, []⟩,
    ⟨⟨.bslice 1 [(.int .i32 (.ofNat 0)), (.int .i32 (.ofNat 0))] [(0, 1, (.const (.int .i32 (.ofNat 3)))), (1, 1, (.const (.int .i32 (.ofNat 1))))] 2, some 80, none⟩, []⟩,
    ⟨⟨.bslice 1 [(.int .i64 (.ofNat 0)), (.int .i64 (.ofNat 0))] [(0, 1, (.const (.int .i64 (.ofNat 1)))), (1, 1, (.const (.int .i64 (.ofNat 2))))] 2, some 81, none⟩, []⟩,
    ⟨⟨.call (.const (.func 10 [] [])) [(.slot 79), (.slot 80), (.slot 81), (.const (.bool true))], some 82, none⟩, []⟩,
    ⟨⟨.mv (.slot 82), some 78, none⟩, []⟩,
    ⟨⟨.extract (.slot 78) 0, some 83, none⟩, []⟩,
    ⟨⟨.extract (.slot 78) 1, some 84, none⟩, []⟩,
    ⟨⟨.mv (.slot 83), some 9, none⟩, []⟩,
    ⟨⟨.mv (.slot 84), some 10, none⟩, []⟩])
  (.seq (.region false [⟨⟨.mv (.slot 8), some 86, none⟩, []⟩,
    ⟨⟨.call (.const (.func 5 [] [])) [(.slot 86), (.const (.int .i64 (.ofNat 9)))], some 87, none⟩, []⟩,
    ⟨⟨.mv (.slot 87), some 85, none⟩, []⟩,
    ⟨⟨.extract (.slot 85) 0, some 88, none⟩, []⟩,
    ⟨⟨.extract (.slot 85) 1, some 89, none⟩, []⟩,
    ⟨⟨.mv (.slot 88), some 11, none⟩, []⟩,
    ⟨⟨.mv (.slot 89), some 12, none⟩, []⟩])
  (.seq (.region false [⟨⟨.mv (.slot 8), some 91, none⟩, []⟩,
    ⟨⟨.mv (.slot 9), some 92, none⟩, []⟩,
    ⟨⟨.call (.const (.func 6 [] [])) [(.slot 91), (.slot 92)], some 93, none⟩, []⟩,
    ⟨⟨.mv (.slot 93), some 90, none⟩, []⟩,
    ⟨⟨.extract (.slot 90) 0, some 94, none⟩, []⟩,
    ⟨⟨.extract (.slot 90) 1, some 95, none⟩, []⟩,
    ⟨⟨.alloc [(.int .i64 (.ofNat 0)), .nils, (.bool false)], some 13, none⟩, []⟩,
    ⟨⟨.store 3 (.slot 13) (.slot 94), none, none⟩, []⟩,
    ⟨⟨.mv (.slot 95), some 14, none⟩, []⟩])
  (.seq (.region false [⟨⟨.mv (.slot 10), some 96, none⟩, []⟩,
    ⟨⟨.bin .eql 27 .num (.slot 96) (.const (.int .i64 (.ofNat 0))), some 97, none⟩, []⟩,
    ⟨⟨.mv (.slot 97), some 98, none⟩, []⟩,
    ⟨⟨.mv (.slot 11), some 99, some (98, true)⟩, []⟩,
    ⟨⟨.bin .eql 3 .num (.slot 99) (.const (.int .i64 (.ofNat 1))), some 100, some (98, true)⟩, []⟩,
    ⟨⟨.pick (.slot 98) (.slot 100) (.const (.bool false)), some 101, none⟩, []⟩,
    ⟨⟨.mv (.slot 101), some 102, none⟩, []⟩,
    ⟨⟨.mv (.slot 12), some 103, some (102, true)⟩, []⟩,
    ⟨⟨.bin .eql 27 .num (.slot 103) (.const (.int .i64 (.ofNat 0))), some 104, some (102, true)⟩, []⟩,
    ⟨⟨.pick (.slot 102) (.slot 104) (.const (.bool false)), some 105, none⟩, []⟩,
    ⟨⟨.mv (.slot 105), some 106, none⟩, []⟩,
    ⟨⟨.mv (.slot 14), some 107, some (106, true)⟩, []⟩,
    ⟨⟨.un .not (.slot 107), some 108, some (106, true)⟩, []⟩,
    ⟨⟨.pick (.slot 106) (.slot 108) (.const (.bool false)), some 109, none⟩, []⟩,
    ⟨⟨.mv (.slot 109), some 110, none⟩, []⟩,
    ⟨⟨.mv (.slot 8), some 111, some (110, true)⟩, []⟩,
    ⟨⟨.call (.const (.func 11 [] [])) [(.slot 111)], some 112, some (110, true)⟩, []⟩,
    ⟨⟨.len .slice (.slot 112), some 113, some (110, true)⟩, []⟩,
    ⟨⟨.bin .eql 3 .num (.slot 113) (.const (.int .i64 (.ofNat 3))), some 114, some (110, true)⟩, []⟩,
    ⟨⟨.pick (.slot 110) (.slot 114) (.const (.bool false)), some 115, none⟩, []⟩,
    ⟨⟨.mv (.slot 115), some 15, none⟩, []⟩])
  (.seq (.region false [⟨⟨.bslice 1 [(.int .i32 (.ofNat 0)), (.int .i32 (.ofNat 0))] [(0, 1, (.const (.int .i32 (.negSucc 0)))), (1, 1, (.const (.int .i32 (.ofNat 2))))] 2, some 116, none⟩, []⟩,
    ⟨⟨.bslice 1 [(.int .i32 (.ofNat 0)), (.int .i32 (.ofNat 0))] [(0, 1, (.const (.int .i32 (.negSucc 0)))), (1, 1, (.const (.int .i32 (.negSucc 1))))] 2, some 117, none⟩, []⟩,
    ⟨⟨.bslice 1 [(.int .i32 (.ofNat 0)), (.int .i32 (.ofNat 0)), (.int .i32 (.ofNat 0))] [(0, 1, (.const (.int .i32 (.ofNat 3)))), (1, 1, (.const (.int .i32 (.negSucc 0)))), (2, 1, (.const (.int .i32 (.ofNat 4))))] 3, some 118, none⟩, []⟩,
    ⟨⟨.bslice 1 [.nils, .nils, .nils] [(0, 1, (.slot 116)), (1, 1, (.slot 117)), (2, 1, (.slot 118))] 3, some 119, none⟩, []⟩,
    ⟨⟨.call (.const (.func 4 [] [])) [(.slot 119)], some 120, none⟩, []⟩,
    ⟨⟨.mv (.slot 120), some 16, none⟩, []⟩])
  (.seq (.region false [⟨⟨.mv (.slot 16), some 122, none⟩, []⟩,
    ⟨⟨.call (.const (.func 5 [] [])) [(.slot 122), (.const (.int .i64 (.ofNat 9)))], some 123, none⟩, []⟩,
    ⟨⟨.mv (.slot 123), some 121, none⟩, []⟩,
    ⟨⟨.extract (.slot 121) 0, some 124, none⟩, []⟩,
    ⟨⟨.extract (.slot 121) 1, some 125, none⟩, []⟩,
    ⟨⟨.mv (.slot 124), some 17, none⟩, []⟩,
    ⟨⟨.mv (.slot 125), some 18, none⟩, []⟩])
  (.seq (.region false [⟨⟨.mv (.slot 16), some 126, none⟩, []⟩,
    ⟨⟨.call (.const (.func 11 [] [])) [(.slot 126)], some 127, none⟩, []⟩,
    ⟨⟨.mv (.slot 127), some 19, none⟩, []⟩])
  (.seq (.region false [⟨⟨.mv (.slot 17), some 128, none⟩, []⟩,
    ⟨⟨.bin .geq 3 .num (.slot 128) (.const (.int .i64 (.ofNat 1))), some 129, none⟩, []⟩,
    ⟨⟨.mv (.slot 129), some 130, none⟩, []⟩,
    ⟨⟨.mv (.slot 18), some 131, some (130, true)⟩, []⟩,
    ⟨⟨.bin .eql 27 .num (.slot 131) (.const (.int .i64 (.ofNat 0))), some 132, some (130, true)⟩, []⟩,
    ⟨⟨.pick (.slot 130) (.slot 132) (.const (.bool false)), some 133, none⟩, []⟩,
    ⟨⟨.mv (.slot 133), some 134, none⟩, []⟩,
    ⟨⟨.mv (.slot 19), some 135, some (134, true)⟩, []⟩,
    ⟨⟨.mv (.slot 19), some 136, some (134, true)⟩, []⟩,
    ⟨⟨.len .slice (.slot 136), some 137, some (134, true)⟩, []⟩,
    ⟨⟨.bin .sub 3 .num (.slot 137) (.const (.int .i64 (.ofNat 1))), some 138, some (134, true)⟩, []⟩,
    ⟨⟨.iaddr 3 (.slot 135) (.slot 138), some 139, some (134, true)⟩, []⟩,
    ⟨⟨.faddr 1 (.slot 139), some 140, some (134, true)⟩, []⟩,
    ⟨⟨.load false 1 (.slot 140), some 141, some (134, true)⟩, []⟩,
    ⟨⟨.bslice 1 [(.int .i32 (.ofNat 0)), (.int .i32 (.ofNat 0))] [(0, 1, (.const (.int .i32 (.ofNat 3)))), (1, 1, (.const (.int .i32 (.negSucc 0))))] 2, some 142, some (134, true)⟩, []⟩,
    ⟨⟨.call (.const (.func 8 [] [])) [(.slot 141), (.slot 142)], some 143, some (134, true)⟩, []⟩,
    ⟨⟨.pick (.slot 134) (.slot 143) (.const (.bool false)), some 144, none⟩, []⟩,
    ⟨⟨.mv (.slot 144), some 20, none⟩, []⟩])
  (.seq (.region false [⟨⟨.call (.const (.func 5 [] [])) [(.const .nilp), (.const (.int .i64 (.ofNat 1)))], some 146, none⟩, []⟩,
    ⟨⟨.mv (.slot 146), some 145, none⟩, []⟩,
    ⟨⟨.extract (.slot 145) 0, some 147, none⟩, []⟩,
    ⟨⟨.extract (.slot 145) 1, some 148, none⟩, []⟩,
    ⟨⟨.mv (.slot 147), some 21, none⟩, []⟩,
    ⟨⟨.mv (.slot 148), some 22, none⟩, []⟩])
  (.seq (.region false [⟨⟨.mv (.slot 16), some 150, none⟩, []⟩,
    ⟨⟨.call (.const (.func 5 [] [])) [(.slot 150), (.const (.int .i64 (.negSucc 0)))], some 151, none⟩, []⟩,
    ⟨⟨.mv (.slot 151), some 149, none⟩, []⟩,
    ⟨⟨.extract (.slot 149) 0, some 152, none⟩, []⟩,
    ⟨⟨.extract (.slot 149) 1, some 153, none⟩, []⟩,
    ⟨⟨.mv (.slot 152), some 23, none⟩, []⟩,
    ⟨⟨.mv (.slot 153), some 24, none⟩, []⟩])
  (.seq (.region false [⟨⟨.bslice 1 [(.int .i32 (.ofNat 0)), (.int .i32 (.ofNat 0)), (.int .i32 (.ofNat 0))] [(0, 1, (.const (.int .i32 (.ofNat 1)))), (1, 1, (.const (.int .i32 (.ofNat 2)))), (2, 1, (.const (.int .i32 (.ofNat 3))))] 3, some 155, none⟩, []⟩,
    ⟨⟨.bslice 1 [(.int .i32 (.ofNat 0)), (.int .i32 (.ofNat 0))] [(0, 1, (.const (.int .i32 (.ofNat 1)))), (1, 1, (.const (.int .i32 (.ofNat 2))))] 2, some 156, none⟩, []⟩,
    ⟨⟨.bslice 1 [.nils, .nils] [(0, 1, (.slot 155)), (1, 1, (.slot 156))] 2, some 157, none⟩, []⟩,
    ⟨⟨.call (.const (.func 4 [] [])) [(.slot 157)], some 158, none⟩, []⟩,
    ⟨⟨.call (.const (.func 5 [] [])) [(.slot 158), (.const (.int .i64 (.ofNat 0)))], some 159, none⟩, []⟩,
    ⟨⟨.mv (.slot 159), some 154, none⟩, []⟩,
    ⟨⟨.extract (.slot 154) 0, some 160, none⟩, []⟩,
    ⟨⟨.extract (.slot 154) 1, some 161, none⟩, []⟩,
    ⟨⟨.mv (.slot 160), some 25, none⟩, []⟩,
    ⟨⟨.mv (.slot 161), some 26, none⟩, []⟩])
  (.seq (.region false [⟨⟨.bslice 1 [(.int .i32 (.ofNat 0)), (.int .i32 (.ofNat 0)), (.int .i32 (.ofNat 0))] [(0, 1, (.const (.int .i32 (.ofNat 1)))), (1, 1, (.const (.int .i32 (.negSucc 0)))), (2, 1, (.const (.int .i32 (.ofNat 2))))] 3, some 163, none⟩, []⟩,
    ⟨⟨.bslice 1 [(.int .i32 (.ofNat 0))] [(0, 1, (.const (.int .i32 (.ofNat 3))))] 1, some 164, none⟩, []⟩,
    ⟨⟨.bslice 1 [] [] 0, some 165, none⟩, []⟩,
    ⟨⟨.bslice 1 [.nils, .nils, .nils] [(0, 1, (.slot 163)), (1, 1, (.slot 164)), (2, 1, (.slot 165))] 3, some 166, none⟩, []⟩,
    ⟨⟨.call (.const (.func 4 [] [])) [(.slot 166)], some 167, none⟩, []⟩,
    ⟨⟨.call (.const (.func 5 [] [])) [(.slot 167), (.const (.int .i64 (.ofNat 9)))], some 168, none⟩, []⟩,
    ⟨⟨.mv (.slot 168), some 162, none⟩, []⟩,
    ⟨⟨.extract (.slot 162) 0, some 169, none⟩, []⟩,
    ⟨⟨.extract (.slot 162) 1, some 170, none⟩, []⟩,
    ⟨⟨.mv (.slot 169), some 27, none⟩, []⟩,
    ⟨⟨.mv (.slot 170), some 28, none⟩, []⟩])
  (.seq (.region false [⟨⟨.mv (.slot 7), some 171, none⟩, []⟩,
    ⟨⟨.mv (.slot 171), some 172, none⟩, []⟩,
    ⟨⟨.mv (.slot 15), some 173, some (172, true)⟩, []⟩,
    ⟨⟨.pick (.slot 172) (.slot 173) (.const (.bool false)), some 174, none⟩, []⟩,
    ⟨⟨.mv (.slot 174), some 175, none⟩, []⟩,
    ⟨⟨.mv (.slot 20), some 176, some (175, true)⟩, []⟩,
    ⟨⟨.pick (.slot 175) (.slot 176) (.const (.bool false)), some 177, none⟩, []⟩,
    ⟨⟨.mv (.slot 177), some 178, none⟩, []⟩,
    ⟨⟨.mv (.slot 22), some 179, some (178, true)⟩, []⟩,
    ⟨⟨.bin .eql 27 .num (.slot 179) (.const (.int .i64 (.ofNat 1))), some 180, some (178, true)⟩, []⟩,
    ⟨⟨.pick (.slot 178) (.slot 180) (.const (.bool false)), some 181, none⟩, []⟩,
    ⟨⟨.mv (.slot 181), some 182, none⟩, []⟩,
    ⟨⟨.mv (.slot 24), some 183, some (182, true)⟩, []⟩,
    ⟨⟨.bin .eql 27 .num (.slot 183) (.const (.int .i64 (.ofNat 2))), some 184, some (182, true)⟩, []⟩,
    ⟨⟨.pick (.slot 182) (.slot 184) (.const (.bool false)), some 185, none⟩, []⟩,
    ⟨⟨.mv (.slot 185), some 186, none⟩, []⟩,
    ⟨⟨.mv (.slot 25), some 187, some (186, true)⟩, []⟩,
    ⟨⟨.bin .eql 3 .num (.slot 187) (.const (.int .i64 (.ofNat 0))), some 188, some (186, true)⟩, []⟩,
    ⟨⟨.pick (.slot 186) (.slot 188) (.const (.bool false)), some 189, none⟩, []⟩,
    ⟨⟨.mv (.slot 189), some 190, none⟩, []⟩,
    ⟨⟨.mv (.slot 26), some 191, some (190, true)⟩, []⟩,
    ⟨⟨.bin .eql 27 .num (.slot 191) (.const (.int .i64 (.ofNat 0))), some 192, some (190, true)⟩, []⟩,
    ⟨⟨.pick (.slot 190) (.slot 192) (.const (.bool false)), some 193, none⟩, []⟩,
    ⟨⟨.mv (.slot 193), some 194, none⟩, []⟩,
    ⟨⟨.mv (.slot 27), some 195, some (194, true)⟩, []⟩,
    ⟨⟨.bin .eql 3 .num (.slot 195) (.const (.int .i64 (.ofNat 0))), some 196, some (194, true)⟩, []⟩,
    ⟨⟨.pick (.slot 194) (.slot 196) (.const (.bool false)), some 197, none⟩, []⟩,
    ⟨⟨.mv (.slot 197), some 198, none⟩, []⟩,
    ⟨⟨.mv (.slot 28), some 199, some (198, true)⟩, []⟩,
    ⟨⟨.bin .eql 27 .num (.slot 199) (.const (.int .i64 (.ofNat 0))), some 200, some (198, true)⟩, []⟩,
    ⟨⟨.pick (.slot 198) (.slot 200) (.const (.bool false)), some 201, none⟩, []⟩,
    ⟨⟨.mv (.slot 201), some 202, none⟩, []⟩,
    ⟨⟨.call (.const (.func 12 [] [])) [], some 203, some (202, true)⟩, []⟩,
    ⟨⟨.pick (.slot 202) (.slot 203) (.const (.bool false)), some 204, none⟩, []⟩,
    ⟨⟨.mv (.slot 204), some 0, none⟩, []⟩])
  .ret)))))))))))))))))))),
  [.tmp 0]⟩
theorem xf3_ok : compFunc Tryz.prog Tryz.f3 = some xf3 := by kernel_rfl
/-- threshing/threshinglaw25.began -/
def xf4 : XFunc := ⟨(.seq (.region false [⟨⟨.mv (.const .nilp), some 2, none⟩, []⟩])
  (.seq (.region false [⟨⟨.mv (.slot 0), some 6, none⟩, []⟩,
    ⟨⟨.build [(.int .i64 (.ofNat 0)), .nils] [(0, 1, (.const (.int .i64 (.ofNat 4)))), (1, 1, (.slot 6))], some 7, none⟩, []⟩,
    ⟨⟨.call (.const (.func 13 [] [])) [(.slot 7)], some 8, none⟩, []⟩,
    ⟨⟨.mv (.slot 8), some 5, none⟩, []⟩,
    ⟨⟨.extract (.slot 5) 0, some 9, none⟩, []⟩,
    ⟨⟨.extract (.slot 5) 1, some 10, none⟩, []⟩,
    ⟨⟨.mv (.slot 9), some 3, none⟩, []⟩,
    ⟨⟨.mv (.slot 10), some 4, none⟩, []⟩])
  (.seq (.region false [⟨⟨.mv (.slot 3), some 11, none⟩, []⟩,
    ⟨⟨.mv (.slot 11), some 2, none⟩, []⟩])
  .ret))),
  [.tmp 2]⟩
theorem xf4_ok : compFunc Tryz.prog Tryz.f4 = some xf4 := by kernel_rfl
/-- threshing/vivify.Vivify -/
def xf5 : XFunc := ⟨(.seq (.region false [⟨⟨.mv (.const (.int .i64 (.ofNat 0))), some 4, none⟩, []⟩,
    ⟨⟨.mv (.const (.int .i64 (.ofNat 0))), some 5, none⟩, []⟩])
  (.seq (.block 0 (.seq (.region false [⟨⟨.mv (.slot 0), some 14, none⟩, []⟩,
    ⟨⟨.bin .eql 22 .ptr (.slot 14) (.const .nilp), some 15, none⟩, []⟩,
    ⟨⟨.mv (.slot 15), some 13, none⟩, []⟩])
  (.cond (.slot 13)
   (.seq (.region false [⟨⟨.mv (.const (.int .i64 (.ofNat 0))), some 4, none⟩, []⟩,
     ⟨⟨.mv (.const (.int .i64 (.ofNat 1))), some 5, none⟩, []⟩])
   .ret)
   (.seq (.region false [⟨⟨.mv (.slot 1), some 17, none⟩, []⟩,
     ⟨⟨.bin .lss 3 .num (.slot 17) (.const (.int .i64 (.ofNat 0))), some 18, none⟩, []⟩,
     ⟨⟨.mv (.slot 18), some 16, none⟩, []⟩])
   (.cond (.slot 16)
    (.seq (.region false [⟨⟨.mv (.const (.int .i64 (.ofNat 0))), some 4, none⟩, []⟩,
      ⟨⟨.mv (.const (.int .i64 (.ofNat 2))), some 5, none⟩, []⟩])
    .ret)
    .skip)))))
  (.seq (.region false [⟨⟨.mv (.const (.int .i64 (.ofNat 0))), some 6, none⟩, []⟩])
  (.seq (.seq (.region false [⟨⟨.mv (.slot 0), some 19, none⟩, []⟩,
    ⟨⟨.call (.const (.func 11 [] [])) [(.slot 19)], some 20, none⟩, []⟩,
    ⟨⟨.len .slice (.slot 20), some 21, none⟩, []⟩,
    ⟨⟨.mv (.const (.int .i64 (.ofNat 0))), some 22, none⟩, []⟩])
  (.block 1 (.loop (.seq (.region false [⟨⟨.bin .lss 3 .num (.slot 22) (.slot 21), some 23, none⟩, []⟩])
   (.seq (.cond (.slot 23)
    .skip
    (.exit 1))
   (.seq (.block 2 (.seq (.region false [⟨⟨.iaddr 3 (.slot 20) (.slot 22), some 24, none⟩, []⟩,
     ⟨⟨.load true 3 (.slot 24), some 25, none⟩, []⟩,
     ⟨⟨.alloc [(.int .i64 (.ofNat 0)), .nils, (.bool false)], some 8, none⟩, []⟩,
     ⟨⟨.store 3 (.slot 8) (.slot 25), none, none⟩, []⟩])
   (.seq (.seq (.region false [⟨⟨.mv (.slot 6), some 26, none⟩, []⟩,
     ⟨⟨.mv (.slot 1), some 27, none⟩, []⟩,
     ⟨⟨.bin .eql 3 .num (.slot 26) (.slot 27), some 28, none⟩, []⟩])
   (.cond (.slot 28)
    (.exit 1)
    .skip))
   (.seq (.region false [⟨⟨.mv (.slot 0), some 30, none⟩, []⟩,
     ⟨⟨.faddr 0 (.slot 8), some 31, none⟩, []⟩,
     ⟨⟨.load false 1 (.slot 31), some 32, none⟩, []⟩,
     ⟨⟨.call (.const (.func 6 [] [])) [(.slot 30), (.slot 32)], some 33, none⟩, []⟩,
     ⟨⟨.mv (.slot 33), some 29, none⟩, []⟩,
     ⟨⟨.extract (.slot 29) 0, some 34, none⟩, []⟩,
     ⟨⟨.extract (.slot 29) 1, some 35, none⟩, []⟩,
     ⟨⟨.alloc [(.int .i64 (.ofNat 0)), .nils, (.bool false)], some 9, none⟩, []⟩,
     ⟨⟨.store 3 (.slot 9) (.slot 34), none, none⟩, []⟩,
     ⟨⟨.mv (.slot 35), some 10, none⟩, []⟩])
   (.seq (.seq (.region false [⟨⟨.mv (.slot 10), some 36, none⟩, []⟩,
     ⟨⟨.un .not (.slot 36), some 37, none⟩, []⟩])
   (.cond (.slot 37)
    (.exit 2)
    .skip))
   (.seq (.region false [⟨⟨.mv (.slot 0), some 39, none⟩, []⟩,
     ⟨⟨.load true 3 (.slot 9), some 40, none⟩, []⟩,
     ⟨⟨.call (.const (.func 14 [] [])) [(.slot 39), (.slot 40)], some 41, none⟩, []⟩,
     ⟨⟨.mv (.slot 41), some 38, none⟩, []⟩,
     ⟨⟨.extract (.slot 38) 0, some 42, none⟩, []⟩,
     ⟨⟨.extract (.slot 38) 1, some 43, none⟩, []⟩,
     ⟨⟨.mv (.slot 42), some 11, none⟩, []⟩,
     ⟨⟨.mv (.slot 43), some 12, none⟩, []⟩])
   (.seq (.seq (.region false [⟨⟨.mv (.slot 12), some 44, none⟩, []⟩,
     ⟨⟨.bin .neq 27 .num (.slot 44) (.const (.int .i64 (.ofNat 0))), some 45, none⟩, []⟩])
   (.cond (.slot 45)
    (.seq (.region false [⟨⟨.mv (.slot 6), some 46, none⟩, []⟩,
      ⟨⟨.mv (.slot 12), some 47, none⟩, []⟩,
      ⟨⟨.mv (.slot 46), some 4, none⟩, []⟩,
      ⟨⟨.mv (.slot 47), some 5, none⟩, []⟩])
    .ret)
    .skip))
   (.seq (.region false [⟨⟨.mv (.slot 11), some 48, none⟩, []⟩])
   (.cond (.slot 48)
    (.region false [⟨⟨.mv (.slot 6), some 49, none⟩, []⟩,
      ⟨⟨.bin .add 3 .num (.slot 49) (.const (.int .i64 (.ofNat 1))), some 50, none⟩, []⟩,
      ⟨⟨.mv (.slot 50), some 6, none⟩, []⟩])
    .skip)))))))))
   (.region false [⟨⟨.bin .add 3 .num (.slot 22) (.const (.int .i64 (.ofNat 1))), some 51, none⟩, []⟩,
     ⟨⟨.mv (.slot 51), some 22, none⟩, []⟩])))))))
  (.seq (.region false [⟨⟨.mv (.slot 6), some 52, none⟩, []⟩,
    ⟨⟨.mv (.slot 52), some 4, none⟩, []⟩,
    ⟨⟨.mv (.const (.int .i64 (.ofNat 0))), some 5, none⟩, []⟩])
  .ret))))),
  [.tmp 4, .tmp 5]⟩
theorem xf5_ok : compFunc Tryz.prog Tryz.f5 = some xf5 := by kernel_rfl
/-- (*threshing/base.Base).Get -/
def xf6 : XFunc := ⟨(.seq (.region false [⟨⟨.alloc [(.int .i64 (.ofNat 0)), .nils, (.bool false)], some 4, none⟩, []⟩,
    ⟨⟨.mv (.const (.bool false)), some 5, none⟩, []⟩])
  (.seq (.seq (.region false [⟨⟨.mv (.slot 0), some 8, none⟩, []⟩,
    ⟨⟨.bin .eql 22 .ptr (.slot 8) (.const .nilp), some 9, none⟩, []⟩])
  (.cond (.slot 9)
   (.seq (.region false [⟨⟨.build [(.int .i64 (.ofNat 0)), .nils, (.bool false)] [], some 10, none⟩, []⟩,
     ⟨⟨.store 3 (.slot 4) (.slot 10), none, none⟩, []⟩,
     ⟨⟨.mv (.const (.bool false)), some 5, none⟩, []⟩])
   .ret)
   .skip))
  (.seq (.region false [⟨⟨.mv (.slot 0), some 12, none⟩, []⟩,
    ⟨⟨.nilCheck (.slot 12), some 13, none⟩, []⟩,
    ⟨⟨.faddr 1 (.slot 13), some 14, none⟩, []⟩,
    ⟨⟨.load false 1 (.slot 14), some 15, none⟩, []⟩,
    ⟨⟨.mv (.slot 1), some 16, none⟩, []⟩,
    ⟨⟨.lookup .i64 (.agg [(.int .i64 (.ofNat 0)), .nils, (.bool false)]) (.slot 15) (.slot 16) true, some 17, none⟩, []⟩,
    ⟨⟨.mv (.slot 17), some 11, none⟩, []⟩,
    ⟨⟨.extract (.slot 11) 0, some 18, none⟩, []⟩,
    ⟨⟨.extract (.slot 11) 1, some 19, none⟩, []⟩,
    ⟨⟨.alloc [(.int .i64 (.ofNat 0)), .nils, (.bool false)], some 6, none⟩, []⟩,
    ⟨⟨.store 3 (.slot 6) (.slot 18), none, none⟩, []⟩,
    ⟨⟨.mv (.slot 19), some 7, none⟩, []⟩])
  (.seq (.region false [⟨⟨.load true 3 (.slot 6), some 20, none⟩, []⟩,
    ⟨⟨.call (.const (.func 15 [] [])) [(.slot 20)], some 21, none⟩, []⟩,
    ⟨⟨.mv (.slot 7), some 22, none⟩, []⟩,
    ⟨⟨.store 3 (.slot 4) (.slot 21), none, none⟩, []⟩,
    ⟨⟨.mv (.slot 22), some 5, none⟩, []⟩])
  .ret)))),
  [.cell 4 true 3, .tmp 5]⟩
theorem xf6_ok : compFunc Tryz.prog Tryz.f6 = some xf6 := by kernel_rfl
/-- (*threshing/base.Base).Steps -/
def xf7 : XFunc := ⟨(.seq (.region false [⟨⟨.mv (.const .nils), some 2, none⟩, []⟩])
  (.seq (.seq (.region false [⟨⟨.mv (.slot 0), some 5, none⟩, []⟩,
    ⟨⟨.bin .eql 22 .ptr (.slot 5) (.const .nilp), some 6, none⟩, []⟩])
  (.cond (.slot 6)
   (.seq (.region false [⟨⟨.mv (.const .nils), some 2, none⟩, []⟩])
   .ret)
   .skip))
  (.seq (.region false [⟨⟨.mv (.slot 0), some 7, none⟩, []⟩,
    ⟨⟨.nilCheck (.slot 7), some 8, none⟩, []⟩,
    ⟨⟨.faddr 5 (.slot 8), some 9, none⟩, []⟩,
    ⟨⟨.load false 1 (.slot 9), some 10, none⟩, []⟩,
    ⟨⟨.call (.const (.func 16 [] [])) [(.slot 10)], some 11, none⟩, []⟩,
    ⟨⟨.mv (.slot 11), some 3, none⟩, []⟩])
  (.seq (.seq (.region false [⟨⟨.mv (.slot 3), some 12, none⟩, []⟩,
    ⟨⟨.len .slice (.slot 12), some 13, none⟩, []⟩,
    ⟨⟨.mv (.const (.int .i64 (.ofNat 0))), some 14, none⟩, []⟩])
  (.block 0 (.loop (.seq (.region false [⟨⟨.bin .lss 3 .num (.slot 14) (.slot 13), some 15, none⟩, []⟩])
   (.seq (.cond (.slot 15)
    .skip
    (.exit 0))
   (.seq (.block 1 (.seq (.region false [⟨⟨.mv (.slot 14), some 16, none⟩, []⟩,
     ⟨⟨.mv (.slot 16), some 4, none⟩, []⟩])
   (.region true [⟨⟨.mv (.slot 3), some 17, none⟩, []⟩,
     ⟨⟨.mv (.slot 4), some 18, none⟩, []⟩,
     ⟨⟨.mv (.slot 3), some 19, none⟩, []⟩,
     ⟨⟨.mv (.slot 4), some 20, none⟩, []⟩,
     ⟨⟨.mv (.slot 3), some 21, none⟩, []⟩,
     ⟨⟨.mv (.slot 4), some 22, none⟩, []⟩,
     ⟨⟨.iaddr 4 (.slot 21) (.slot 22), some 23, none⟩, []⟩,
     ⟨⟨.faddr 2 (.slot 23), some 24, none⟩, []⟩,
     ⟨⟨.load false 1 (.slot 24), some 25, none⟩, []⟩,
     ⟨⟨.mv (.slot 3), some 27, none⟩, []⟩,
     ⟨⟨.mv (.slot 4), some 28, none⟩, []⟩,
     ⟨⟨.iaddr 4 (.slot 27) (.slot 28), some 29, none⟩, []⟩,
     ⟨⟨.faddr 3 (.slot 29), some 30, none⟩, []⟩,
     ⟨⟨.load false 1 (.slot 30), some 31, none⟩, []⟩,
     ⟨⟨.call (.const (.func 17 [] [])) [(.slot 25)], some 26, none⟩, [⟨.load false 1 (.slot 30), some 31, none⟩]⟩,
     ⟨⟨.call (.const (.func 18 [] [])) [(.slot 31)], some 32, none⟩, []⟩,
     ⟨⟨.iaddr 4 (.slot 17) (.slot 18), some 33, none⟩, []⟩,
     ⟨⟨.faddr 2 (.slot 33), some 34, none⟩, []⟩,
     ⟨⟨.store 1 (.slot 34) (.slot 26), none, none⟩, []⟩,
     ⟨⟨.iaddr 4 (.slot 19) (.slot 20), some 35, none⟩, []⟩,
     ⟨⟨.faddr 3 (.slot 35), some 36, none⟩, []⟩,
     ⟨⟨.store 1 (.slot 36) (.slot 32), none, none⟩, []⟩])))
   (.region false [⟨⟨.bin .add 3 .num (.slot 14) (.const (.int .i64 (.ofNat 1))), some 37, none⟩, []⟩,
     ⟨⟨.mv (.slot 37), some 14, none⟩, []⟩])))))))
  (.seq (.region false [⟨⟨.mv (.slot 3), some 38, none⟩, []⟩,
    ⟨⟨.mv (.slot 38), some 2, none⟩, []⟩])
  .ret))))),
  [.tmp 2]⟩
theorem xf7_ok : compFunc Tryz.prog Tryz.f7 = some xf7 := by kernel_rfl
/-- threshing/threshingkit.SameClause -/
def xf8 : XFunc := ⟨(.seq (.region false [⟨⟨.mv (.const (.bool false)), some 4, none⟩, []⟩])
  (.seq (.seq (.region false [⟨⟨.mv (.slot 0), some 6, none⟩, []⟩,
    ⟨⟨.len .slice (.slot 6), some 7, none⟩, []⟩,
    ⟨⟨.mv (.slot 1), some 8, none⟩, []⟩,
    ⟨⟨.len .slice (.slot 8), some 9, none⟩, []⟩,
    ⟨⟨.bin .neq 3 .num (.slot 7) (.slot 9), some 10, none⟩, []⟩])
  (.cond (.slot 10)
   (.seq (.region false [⟨⟨.mv (.const (.bool false)), some 4, none⟩, []⟩])
   .ret)
   .skip))
  (.seq (.seq (.region false [⟨⟨.mv (.const (.int .i64 (.ofNat 0))), some 5, none⟩, []⟩])
  (.block 0 (.loop (.seq (.seq (.region false [⟨⟨.mv (.slot 5), some 11, none⟩, []⟩,
     ⟨⟨.mv (.slot 0), some 12, none⟩, []⟩,
     ⟨⟨.len .slice (.slot 12), some 13, none⟩, []⟩,
     ⟨⟨.bin .lss 3 .num (.slot 11) (.slot 13), some 14, none⟩, []⟩])
   (.cond (.slot 14)
    .skip
    (.exit 0)))
   (.seq (.block 1 (.seq (.region true [⟨⟨.mv (.slot 0), some 17, none⟩, []⟩,
     ⟨⟨.mv (.slot 5), some 18, none⟩, []⟩,
     ⟨⟨.iaddr 1 (.slot 17) (.slot 18), some 19, none⟩, []⟩,
     ⟨⟨.load false 1 (.slot 19), some 20, none⟩, []⟩,
     ⟨⟨.mv (.slot 1), some 21, none⟩, []⟩,
     ⟨⟨.mv (.slot 5), some 22, none⟩, []⟩,
     ⟨⟨.iaddr 1 (.slot 21) (.slot 22), some 23, none⟩, []⟩,
     ⟨⟨.load false 1 (.slot 23), some 24, none⟩, []⟩,
     ⟨⟨.bin .neq 24 .num (.slot 20) (.slot 24), some 25, none⟩, []⟩])
   (.cond (.slot 25)
    (.seq (.region false [⟨⟨.mv (.const (.bool false)), some 4, none⟩, []⟩])
    .ret)
    .skip)))
   (.region false [⟨⟨.mv (.slot 5), some 15, none⟩, []⟩,
     ⟨⟨.bin .add 3 .num (.slot 15) (.const (.int .i64 (.ofNat 1))), some 16, none⟩, []⟩,
     ⟨⟨.mv (.slot 16), some 5, none⟩, []⟩]))))))
  (.seq (.region false [⟨⟨.mv (.const (.bool true)), some 4, none⟩, []⟩])
  .ret)))),
  [.tmp 4]⟩
theorem xf8_ok : compFunc Tryz.prog Tryz.f8 = some xf8 := by kernel_rfl
/-- threshing/threshingkit.SameIDs -/
def xf9 : XFunc := ⟨(.seq (.region false [⟨⟨.mv (.const (.bool false)), some 4, none⟩, []⟩])
  (.seq (.seq (.region false [⟨⟨.mv (.slot 0), some 6, none⟩, []⟩,
    ⟨⟨.len .slice (.slot 6), some 7, none⟩, []⟩,
    ⟨⟨.mv (.slot 1), some 8, none⟩, []⟩,
    ⟨⟨.len .slice (.slot 8), some 9, none⟩, []⟩,
    ⟨⟨.bin .neq 3 .num (.slot 7) (.slot 9), some 10, none⟩, []⟩])
  (.cond (.slot 10)
   (.seq (.region false [⟨⟨.mv (.const (.bool false)), some 4, none⟩, []⟩])
   .ret)
   .skip))
  (.seq (.seq (.region false [⟨⟨.mv (.const (.int .i64 (.ofNat 0))), some 5, none⟩, []⟩])
  (.block 0 (.loop (.seq (.seq (.region false [⟨⟨.mv (.slot 5), some 11, none⟩, []⟩,
     ⟨⟨.mv (.slot 0), some 12, none⟩, []⟩,
     ⟨⟨.len .slice (.slot 12), some 13, none⟩, []⟩,
     ⟨⟨.bin .lss 3 .num (.slot 11) (.slot 13), some 14, none⟩, []⟩])
   (.cond (.slot 14)
    .skip
    (.exit 0)))
   (.seq (.block 1 (.seq (.region true [⟨⟨.mv (.slot 0), some 17, none⟩, []⟩,
     ⟨⟨.mv (.slot 5), some 18, none⟩, []⟩,
     ⟨⟨.iaddr 1 (.slot 17) (.slot 18), some 19, none⟩, []⟩,
     ⟨⟨.load false 1 (.slot 19), some 20, none⟩, []⟩,
     ⟨⟨.mv (.slot 1), some 21, none⟩, []⟩,
     ⟨⟨.mv (.slot 5), some 22, none⟩, []⟩,
     ⟨⟨.iaddr 1 (.slot 21) (.slot 22), some 23, none⟩, []⟩,
     ⟨⟨.load false 1 (.slot 23), some 24, none⟩, []⟩,
     ⟨⟨.bin .neq 2 .num (.slot 20) (.slot 24), some 25, none⟩, []⟩])
   (.cond (.slot 25)
    (.seq (.region false [⟨⟨.mv (.const (.bool false)), some 4, none⟩, []⟩])
    .ret)
    .skip)))
   (.region false [⟨⟨.mv (.slot 5), some 15, none⟩, []⟩,
     ⟨⟨.bin .add 3 .num (.slot 15) (.const (.int .i64 (.ofNat 1))), some 16, none⟩, []⟩,
     ⟨⟨.mv (.slot 16), some 5, none⟩, []⟩]))))))
  (.seq (.region false [⟨⟨.mv (.const (.bool true)), some 4, none⟩, []⟩])
  .ret)))),
  [.tmp 4]⟩
theorem xf9_ok : compFunc Tryz.prog Tryz.f9 = some xf9 := by kernel_rfl
/-- (*threshing/base.Base).Add -/
def xf10 : XFunc := ⟨(.seq (.region false [⟨⟨.mv (.const (.int .i64 (.ofNat 0))), some 8, none⟩, []⟩,
    ⟨⟨.mv (.const (.int .i64 (.ofNat 0))), some 9, none⟩, []⟩])
  (.seq (.block 0 (.seq (.region false [⟨⟨.mv (.slot 0), some 12, none⟩, []⟩,
    ⟨⟨.bin .eql 22 .ptr (.slot 12) (.const .nilp), some 13, none⟩, []⟩,
    ⟨⟨.mv (.slot 13), some 11, none⟩, []⟩])
  (.cond (.slot 11)
   (.seq (.region false [⟨⟨.mv (.const (.int .i64 (.ofNat 0))), some 8, none⟩, []⟩,
     ⟨⟨.mv (.const (.int .i64 (.ofNat 1))), some 9, none⟩, []⟩])
   .ret)
   (.seq (.region false [⟨⟨.mv (.slot 0), some 15, none⟩, []⟩,
     ⟨⟨.call (.const (.func 19 [] [])) [(.slot 15)], some 16, none⟩, []⟩,
     ⟨⟨.mv (.slot 16), some 14, none⟩, []⟩])
   (.cond (.slot 14)
    (.seq (.region false [⟨⟨.mv (.const (.int .i64 (.ofNat 0))), some 8, none⟩, []⟩,
      ⟨⟨.mv (.const (.int .i64 (.ofNat 3))), some 9, none⟩, []⟩])
    .ret)
    (.seq (.region false [⟨⟨.mv (.slot 0), some 18, none⟩, []⟩,
      ⟨⟨.mv (.slot 1), some 19, none⟩, []⟩,
      ⟨⟨.call (.const (.func 20 [] [])) [(.slot 18), (.slot 19)], some 20, none⟩, []⟩,
      ⟨⟨.un .not (.slot 20), some 21, none⟩, []⟩,
      ⟨⟨.mv (.slot 21), some 17, none⟩, []⟩])
    (.cond (.slot 17)
     (.seq (.region false [⟨⟨.mv (.const (.int .i64 (.ofNat 0))), some 8, none⟩, []⟩,
       ⟨⟨.mv (.const (.int .i64 (.ofNat 4))), some 9, none⟩, []⟩])
     .ret)
     .skip)))))))
  (.seq (.seq (.region false [⟨⟨.mv (.slot 0), some 22, none⟩, []⟩,
    ⟨⟨.mv (.slot 1), some 23, none⟩, []⟩,
    ⟨⟨.mv (.slot 2), some 24, none⟩, []⟩,
    ⟨⟨.call (.const (.func 21 [] [])) [(.slot 22), (.slot 23), (.slot 24)], some 25, none⟩, []⟩,
    ⟨⟨.mv (.slot 25), some 10, none⟩, []⟩])
  (.seq (.region false [⟨⟨.mv (.slot 10), some 26, none⟩, []⟩,
    ⟨⟨.bin .neq 27 .num (.slot 26) (.const (.int .i64 (.ofNat 0))), some 27, none⟩, []⟩])
  (.cond (.slot 27)
   (.seq (.region false [⟨⟨.mv (.slot 10), some 28, none⟩, []⟩,
     ⟨⟨.mv (.const (.int .i64 (.ofNat 0))), some 8, none⟩, []⟩,
     ⟨⟨.mv (.slot 28), some 9, none⟩, []⟩])
   .ret)
   .skip)))
  (.seq (.region false [⟨⟨.mv (.slot 0), some 29, none⟩, []⟩,
    ⟨⟨.mv (.slot 1), some 30, none⟩, []⟩,
    ⟨⟨.mv (.slot 3), some 31, none⟩, []⟩,
    ⟨⟨.call (.const (.func 22 [] [])) [(.slot 29), (.slot 30), (.slot 31)], some 32, none⟩, []⟩])
  (.seq (.region true [⟨⟨.mv (.slot 0), some 33, none⟩, []⟩,
    ⟨⟨.mv (.slot 0), some 34, none⟩, []⟩,
    ⟨⟨.nilCheck (.slot 34), some 35, none⟩, []⟩,
    ⟨⟨.faddr 5 (.slot 35), some 36, none⟩, []⟩,
    ⟨⟨.load false 1 (.slot 36), some 37, none⟩, []⟩,
    ⟨⟨.mv (.slot 0), some 38, none⟩, []⟩,
    ⟨⟨.nilCheck (.slot 38), some 39, none⟩, []⟩,
    ⟨⟨.faddr 4 (.slot 39), some 40, none⟩, []⟩,
    ⟨⟨.load false 1 (.slot 40), some 41, none⟩, []⟩,
    ⟨⟨.mv (.slot 1), some 42, none⟩, []⟩,
    ⟨⟨.mv (.slot 2), some 44, none⟩, []⟩,
    ⟨⟨.call (.const (.func 17 [] [])) [(.slot 42)], some 43, none⟩, [⟨.load false 1 (.slot 36), some 37, none⟩, ⟨.load false 1 (.slot 40), some 41, none⟩]⟩,
    ⟨⟨.call (.const (.func 18 [] [])) [(.slot 44)], some 45, none⟩, [⟨.load false 1 (.slot 36), some 37, none⟩, ⟨.load false 1 (.slot 40), some 41, none⟩]⟩,
    ⟨⟨.build [(.int .u8 (.ofNat 0)), (.int .i64 (.ofNat 0)), .nils, .nils] [(0, 1, (.const (.int .u8 (.ofNat 1)))), (1, 1, (.slot 41)), (2, 1, (.slot 43)), (3, 1, (.slot 45))], some 46, none⟩, []⟩,
    ⟨⟨.bslice 4 [(.int .u8 (.ofNat 0)), (.int .i64 (.ofNat 0)), .nils, .nils] [(0, 4, (.slot 46))] 1, some 47, none⟩, [⟨.load false 1 (.slot 36), some 37, none⟩]⟩,
    ⟨⟨.append 4 64 (.slot 37) (.slot 47), some 48, none⟩, []⟩,
    ⟨⟨.nilCheck (.slot 33), some 49, none⟩, []⟩,
    ⟨⟨.faddr 5 (.slot 49), some 50, none⟩, []⟩,
    ⟨⟨.store 1 (.slot 50) (.slot 48), none, none⟩, []⟩])
  (.seq (.region true [⟨⟨.mv (.slot 0), some 51, none⟩, []⟩,
    ⟨⟨.mv (.slot 0), some 52, none⟩, []⟩,
    ⟨⟨.nilCheck (.slot 52), some 53, none⟩, []⟩,
    ⟨⟨.faddr 4 (.slot 53), some 54, none⟩, []⟩,
    ⟨⟨.load false 1 (.slot 54), some 55, none⟩, []⟩,
    ⟨⟨.mv (.slot 3), some 56, none⟩, []⟩,
    ⟨⟨.mv (.slot 1), some 57, none⟩, []⟩,
    ⟨⟨.mv (.slot 2), some 59, none⟩, []⟩,
    ⟨⟨.call (.const (.func 17 [] [])) [(.slot 57)], some 58, none⟩, [⟨.load false 1 (.slot 54), some 55, none⟩]⟩,
    ⟨⟨.call (.const (.func 18 [] [])) [(.slot 59)], some 60, none⟩, [⟨.load false 1 (.slot 54), some 55, none⟩]⟩,
    ⟨⟨.build [(.int .u8 (.ofNat 0)), (.int .i64 (.ofNat 0)), (.int .i64 (.ofNat 0)), (.bool false), .nils, .nils] [(0, 1, (.const (.int .u8 (.ofNat 1)))), (1, 1, (.slot 55)), (3, 1, (.slot 56)), (4, 1, (.slot 58)), (5, 1, (.slot 60))], some 61, none⟩, []⟩,
    ⟨⟨.call (.const (.func 23 [] [])) [(.slot 51), (.slot 61)], some 62, none⟩, []⟩])
  (.seq (.region false [⟨⟨.mv (.slot 0), some 63, none⟩, []⟩,
    ⟨⟨.nilCheck (.slot 63), some 64, none⟩, []⟩,
    ⟨⟨.faddr 4 (.slot 64), some 65, none⟩, []⟩,
    ⟨⟨.load false 1 (.slot 65), some 66, none⟩, []⟩,
    ⟨⟨.mv (.slot 66), some 8, none⟩, []⟩,
    ⟨⟨.mv (.const (.int .i64 (.ofNat 0))), some 9, none⟩, []⟩])
  .ret))))))),
  [.tmp 8, .tmp 9]⟩
theorem xf10_ok : compFunc Tryz.prog Tryz.f10 = some xf10 := by kernel_rfl
/-- (*threshing/base.Base).Entries -/
def xf11 : XFunc := ⟨(.seq (.region false [⟨⟨.mv (.const .nils), some 2, none⟩, []⟩])
  (.seq (.seq (.region false [⟨⟨.mv (.slot 0), some 6, none⟩, []⟩,
    ⟨⟨.bin .eql 22 .ptr (.slot 6) (.const .nilp), some 7, none⟩, []⟩])
  (.cond (.slot 7)
   (.seq (.region false [⟨⟨.mv (.const .nils), some 2, none⟩, []⟩])
   .ret)
   .skip))
  (.seq (.region false [⟨⟨.mv (.const .nils), some 3, none⟩, []⟩])
  (.seq (.seq (.region false [⟨⟨.mv (.slot 0), some 8, none⟩, []⟩,
    ⟨⟨.nilCheck (.slot 8), some 9, none⟩, []⟩,
    ⟨⟨.faddr 1 (.slot 9), some 10, none⟩, []⟩,
    ⟨⟨.load false 1 (.slot 10), some 11, none⟩, []⟩,
    ⟨⟨.call (.const (.func 25 [] [])) [(.slot 11)], some 12, none⟩, []⟩,
    ⟨⟨.call (.const (.func 24 [] [])) [(.slot 12)], some 13, none⟩, []⟩,
    ⟨⟨.len .slice (.slot 13), some 14, none⟩, []⟩,
    ⟨⟨.mv (.const (.int .i64 (.ofNat 0))), some 15, none⟩, []⟩])
  (.block 0 (.loop (.seq (.region false [⟨⟨.bin .lss 3 .num (.slot 15) (.slot 14), some 16, none⟩, []⟩])
   (.seq (.cond (.slot 16)
    .skip
    (.exit 0))
   (.seq (.block 1 (.seq (.region false [⟨⟨.iaddr 1 (.slot 13) (.slot 15), some 17, none⟩, []⟩,
     ⟨⟨.load false 1 (.slot 17), some 18, none⟩, []⟩,
     ⟨⟨.mv (.slot 18), some 5, none⟩, []⟩])
   (.region false [⟨⟨.mv (.slot 3), some 19, none⟩, []⟩,
     ⟨⟨.mv (.slot 0), some 20, none⟩, []⟩,
     ⟨⟨.nilCheck (.slot 20), some 21, none⟩, []⟩,
     ⟨⟨.faddr 1 (.slot 21), some 22, none⟩, []⟩,
     ⟨⟨.load false 1 (.slot 22), some 23, none⟩, []⟩,
     ⟨⟨.mv (.slot 5), some 24, none⟩, []⟩,
     ⟨⟨.lookup .i64 (.agg [(.int .i64 (.ofNat 0)), .nils, (.bool false)]) (.slot 23) (.slot 24) false, some 25, none⟩, []⟩,
     ⟨⟨.call (.const (.func 15 [] [])) [(.slot 25)], some 26, none⟩, []⟩,
     ⟨⟨.bslice 3 [(.int .i64 (.ofNat 0)), .nils, (.bool false)] [(0, 3, (.slot 26))] 1, some 27, none⟩, []⟩,
     ⟨⟨.append 3 40 (.slot 19) (.slot 27), some 28, none⟩, []⟩,
     ⟨⟨.mv (.slot 28), some 3, none⟩, []⟩])))
   (.region false [⟨⟨.bin .add 3 .num (.slot 15) (.const (.int .i64 (.ofNat 1))), some 29, none⟩, []⟩,
     ⟨⟨.mv (.slot 29), some 15, none⟩, []⟩])))))))
  (.seq (.region false [⟨⟨.mv (.slot 3), some 30, none⟩, []⟩,
    ⟨⟨.mv (.slot 30), some 2, none⟩, []⟩])
  .ret))))),
  [.tmp 2]⟩
theorem xf11_ok : compFunc Tryz.prog Tryz.f11 = some xf11 := by kernel_rfl
/-- threshing/threshinglaw25.works -/
def xf12 : XFunc := ⟨(.seq (.region false [⟨⟨.mv (.const (.bool false)), some 0, none⟩, []⟩])
  (.seq (.region false [⟨⟨.bslice 1 [(.int .i32 (.ofNat 0)), (.int .i32 (.ofNat 0)), (.int .i32 (.ofNat 0))] [(0, 1, (.const (.int .i32 (.ofNat 1)))), (1, 1, (.const (.int .i32 (.ofNat 2)))), (2, 1, (.const (.int .i32 (.ofNat 3))))] 3, some 6, none⟩, []⟩,
    ⟨⟨.bslice 1 [(.int .i32 (.ofNat 0)), (.int .i32 (.ofNat 0))] [(0, 1, (.const (.int .i32 (.ofNat 1)))), (1, 1, (.const (.int .i32 (.negSucc 1))))] 2, some 7, none⟩, []⟩,
    ⟨⟨.bslice 1 [.nils, .nils] [(0, 1, (.slot 6)), (1, 1, (.slot 7))] 2, some 8, none⟩, []⟩,
    ⟨⟨.call (.const (.func 4 [] [])) [(.slot 8)], some 9, none⟩, []⟩,
    ⟨⟨.mv (.slot 9), some 1, none⟩, []⟩])
  (.seq (.region false [⟨⟨.mv (.slot 1), some 11, none⟩, []⟩,
    ⟨⟨.call (.const (.func 5 [] [])) [(.slot 11), (.const (.int .i64 (.ofNat 9)))], some 12, none⟩, []⟩,
    ⟨⟨.mv (.slot 12), some 10, none⟩, []⟩,
    ⟨⟨.extract (.slot 10) 0, some 13, none⟩, []⟩,
    ⟨⟨.extract (.slot 10) 1, some 14, none⟩, []⟩,
    ⟨⟨.mv (.slot 13), some 2, none⟩, []⟩,
    ⟨⟨.mv (.slot 14), some 3, none⟩, []⟩])
  (.seq (.region false [⟨⟨.mv (.slot 1), some 16, none⟩, []⟩,
    ⟨⟨.call (.const (.func 6 [] [])) [(.slot 16), (.const (.int .i64 (.ofNat 3)))], some 17, none⟩, []⟩,
    ⟨⟨.mv (.slot 17), some 15, none⟩, []⟩,
    ⟨⟨.extract (.slot 15) 0, some 18, none⟩, []⟩,
    ⟨⟨.extract (.slot 15) 1, some 19, none⟩, []⟩,
    ⟨⟨.alloc [(.int .i64 (.ofNat 0)), .nils, (.bool false)], some 4, none⟩, []⟩,
    ⟨⟨.store 3 (.slot 4) (.slot 18), none, none⟩, []⟩,
    ⟨⟨.mv (.slot 19), some 5, none⟩, []⟩])
  (.seq (.region false [⟨⟨.mv (.slot 2), some 20, none⟩, []⟩,
    ⟨⟨.bin .eql 3 .num (.slot 20) (.const (.int .i64 (.ofNat 1))), some 21, none⟩, []⟩,
    ⟨⟨.mv (.slot 21), some 22, none⟩, []⟩,
    ⟨⟨.mv (.slot 3), some 23, some (22, true)⟩, []⟩,
    ⟨⟨.bin .eql 27 .num (.slot 23) (.const (.int .i64 (.ofNat 0))), some 24, some (22, true)⟩, []⟩,
    ⟨⟨.pick (.slot 22) (.slot 24) (.const (.bool false)), some 25, none⟩, []⟩,
    ⟨⟨.mv (.slot 25), some 26, none⟩, []⟩,
    ⟨⟨.mv (.slot 5), some 27, some (26, true)⟩, []⟩,
    ⟨⟨.pick (.slot 26) (.slot 27) (.const (.bool false)), some 28, none⟩, []⟩,
    ⟨⟨.mv (.slot 28), some 29, none⟩, []⟩,
    ⟨⟨.faddr 1 (.slot 4), some 30, some (29, true)⟩, []⟩,
    ⟨⟨.load false 1 (.slot 30), some 31, some (29, true)⟩, []⟩,
    ⟨⟨.bslice 1 [(.int .i32 (.ofNat 0)), (.int .i32 (.ofNat 0))] [(0, 1, (.const (.int .i32 (.ofNat 1)))), (1, 1, (.const (.int .i32 (.ofNat 3))))] 2, some 32, some (29, true)⟩, []⟩,
    ⟨⟨.call (.const (.func 8 [] [])) [(.slot 31), (.slot 32)], some 33, some (29, true)⟩, []⟩,
    ⟨⟨.pick (.slot 29) (.slot 33) (.const (.bool false)), some 34, none⟩, []⟩,
    ⟨⟨.mv (.slot 34), some 35, none⟩, []⟩,
    ⟨⟨.mv (.slot 1), some 36, some (35, true)⟩, []⟩,
    ⟨⟨.call (.const (.func 11 [] [])) [(.slot 36)], some 37, some (35, true)⟩, []⟩,
    ⟨⟨.len .slice (.slot 37), some 38, some (35, true)⟩, []⟩,
    ⟨⟨.bin .eql 3 .num (.slot 38) (.const (.int .i64 (.ofNat 2))), some 39, some (35, true)⟩, []⟩,
    ⟨⟨.pick (.slot 35) (.slot 39) (.const (.bool false)), some 40, none⟩, []⟩,
    ⟨⟨.mv (.slot 40), some 0, none⟩, []⟩])
  .ret))))),
  [.tmp 0]⟩
theorem xf12_ok : compFunc Tryz.prog Tryz.f12 = some xf12 := by kernel_rfl
/-- threshing/base.New -/
def xf13 : XFunc := ⟨(.seq (.region false [⟨⟨.box (.slot 0), some 1, none⟩, []⟩,
    ⟨⟨.mv (.const .nilp), some 2, none⟩, []⟩,
    ⟨⟨.mv (.const (.int .i64 (.ofNat 0))), some 3, none⟩, []⟩])
  (.seq (.seq (.region false [⟨⟨.load true 2 (.slot 1), some 8, none⟩, []⟩,
    ⟨⟨.call (.const (.func 26 [] [])) [(.slot 8)], some 9, none⟩, []⟩,
    ⟨⟨.mv (.slot 9), some 4, none⟩, []⟩])
  (.seq (.region false [⟨⟨.mv (.slot 4), some 10, none⟩, []⟩,
    ⟨⟨.bin .neq 27 .num (.slot 10) (.const (.int .i64 (.ofNat 0))), some 11, none⟩, []⟩])
  (.cond (.slot 11)
   (.seq (.region false [⟨⟨.mv (.slot 4), some 12, none⟩, []⟩,
     ⟨⟨.mv (.const .nilp), some 2, none⟩, []⟩,
     ⟨⟨.mv (.slot 12), some 3, none⟩, []⟩])
   .ret)
   .skip)))
  (.seq (.region false [⟨⟨.faddr 0 (.slot 1), some 13, none⟩, []⟩,
    ⟨⟨.load false 1 (.slot 13), some 14, none⟩, []⟩,
    ⟨⟨.mkmap .i64, some 15, none⟩, []⟩,
    ⟨⟨.mkmap .i32, some 16, none⟩, []⟩,
    ⟨⟨.mkmap .i64, some 17, none⟩, []⟩,
    ⟨⟨.build [(.int .i64 (.ofNat 0)), .nilm, .nilm, .nilm, (.int .i64 (.ofNat 0)), .nils, .nils, .nils] [(0, 1, (.slot 14)), (1, 1, (.slot 15)), (2, 1, (.slot 16)), (3, 1, (.slot 17))], some 18, none⟩, []⟩,
    ⟨⟨.box (.slot 18), some 19, none⟩, []⟩,
    ⟨⟨.mv (.slot 19), some 5, none⟩, []⟩])
  (.seq (.seq (.region false [⟨⟨.faddr 1 (.slot 1), some 20, none⟩, []⟩,
    ⟨⟨.load false 1 (.slot 20), some 21, none⟩, []⟩,
    ⟨⟨.len .slice (.slot 21), some 22, none⟩, []⟩,
    ⟨⟨.mv (.const (.int .i64 (.ofNat 0))), some 23, none⟩, []⟩])
  (.block 0 (.loop (.seq (.region false [⟨⟨.bin .lss 3 .num (.slot 23) (.slot 22), some 24, none⟩, []⟩])
   (.seq (.cond (.slot 24)
    .skip
    (.exit 0))
   (.seq (.block 1 (.seq (.region false [⟨⟨.iaddr 1 (.slot 21) (.slot 23), some 25, none⟩, []⟩,
     ⟨⟨.load false 1 (.slot 25), some 26, none⟩, []⟩,
     ⟨⟨.mv (.slot 26), some 7, none⟩, []⟩])
   (.region false [⟨⟨.mv (.slot 5), some 27, none⟩, []⟩,
     ⟨⟨.mv (.slot 7), some 28, none⟩, []⟩,
     ⟨⟨.call (.const (.func 22 [] [])) [(.slot 27), (.slot 28), (.const (.bool false))], some 29, none⟩, []⟩])))
   (.region false [⟨⟨.bin .add 3 .num (.slot 23) (.const (.int .i64 (.ofNat 1))), some 30, none⟩, []⟩,
     ⟨⟨.mv (.slot 30), some 23, none⟩, []⟩])))))))
  (.seq (.region false [⟨⟨.mv (.slot 5), some 31, none⟩, []⟩,
    ⟨⟨.mv (.slot 31), some 2, none⟩, []⟩,
    ⟨⟨.mv (.const (.int .i64 (.ofNat 0))), some 3, none⟩, []⟩])
  .ret))))),
  [.tmp 2, .tmp 3]⟩
theorem xf13_ok : compFunc Tryz.prog Tryz.f13 = some xf13 := by kernel_rfl
/-- threshing/vivify.one -/
def xf14 : XFunc := ⟨(.seq (.region false [⟨⟨.box (.slot 1), some 3, none⟩, []⟩,
    ⟨⟨.mv (.const (.bool false)), some 4, none⟩, []⟩,
    ⟨⟨.mv (.const (.int .i64 (.ofNat 0))), some 5, none⟩, []⟩])
  (.seq (.region false [⟨⟨.faddr 1 (.slot 3), some 13, none⟩, []⟩,
    ⟨⟨.load false 1 (.slot 13), some 14, none⟩, []⟩,
    ⟨⟨.call (.const (.func 27 [] [])) [(.slot 14)], some 15, none⟩, []⟩,
    ⟨⟨.mv (.slot 15), some 12, none⟩, []⟩,
    ⟨⟨.extract (.slot 12) 0, some 16, none⟩, []⟩,
    ⟨⟨.extract (.slot 12) 1, some 17, none⟩, []⟩,
    ⟨⟨.mv (.slot 16), some 6, none⟩, []⟩,
    ⟨⟨.mv (.slot 17), some 7, none⟩, []⟩])
  (.seq (.seq (.region false [⟨⟨.mv (.slot 7), some 18, none⟩, []⟩,
    ⟨⟨.mv (.slot 18), some 19, none⟩, []⟩,
    ⟨⟨.mv (.slot 6), some 20, some (19, false)⟩, []⟩,
    ⟨⟨.len .slice (.slot 20), some 21, some (19, false)⟩, []⟩,
    ⟨⟨.bin .lss 3 .num (.slot 21) (.const (.int .i64 (.ofNat 2))), some 22, some (19, false)⟩, []⟩,
    ⟨⟨.pick (.slot 19) (.const (.bool true)) (.slot 22), some 23, none⟩, []⟩])
  (.cond (.slot 23)
   (.seq (.region false [⟨⟨.mv (.const (.bool false)), some 4, none⟩, []⟩,
     ⟨⟨.mv (.const (.int .i64 (.ofNat 0))), some 5, none⟩, []⟩])
   .ret)
   .skip))
  (.seq (.region false [⟨⟨.mv (.slot 0), some 25, none⟩, []⟩,
    ⟨⟨.load true 3 (.slot 3), some 26, none⟩, []⟩,
    ⟨⟨.call (.const (.func 28 [] [])) [(.slot 25), (.slot 26)], some 27, none⟩, []⟩,
    ⟨⟨.mv (.slot 27), some 24, none⟩, []⟩,
    ⟨⟨.extract (.slot 24) 0, some 28, none⟩, []⟩,
    ⟨⟨.extract (.slot 24) 1, some 29, none⟩, []⟩,
    ⟨⟨.alloc [.nils, .nils, (.bool false)], some 8, none⟩, []⟩,
    ⟨⟨.store 3 (.slot 8) (.slot 28), none, none⟩, []⟩,
    ⟨⟨.mv (.slot 29), some 9, none⟩, []⟩])
  (.seq (.block 0 (.seq (.region false [⟨⟨.mv (.slot 9), some 31, none⟩, []⟩,
    ⟨⟨.bin .neq 27 .num (.slot 31) (.const (.int .i64 (.ofNat 0))), some 32, none⟩, []⟩,
    ⟨⟨.mv (.slot 32), some 30, none⟩, []⟩])
  (.cond (.slot 30)
   (.seq (.region false [⟨⟨.mv (.slot 9), some 33, none⟩, []⟩,
     ⟨⟨.mv (.const (.bool false)), some 4, none⟩, []⟩,
     ⟨⟨.mv (.slot 33), some 5, none⟩, []⟩])
   .ret)
   (.seq (.region false [⟨⟨.faddr 0 (.slot 8), some 35, none⟩, []⟩,
     ⟨⟨.load false 1 (.slot 35), some 36, none⟩, []⟩,
     ⟨⟨.len .slice (.slot 36), some 37, none⟩, []⟩,
     ⟨⟨.mv (.slot 6), some 38, none⟩, []⟩,
     ⟨⟨.len .slice (.slot 38), some 39, none⟩, []⟩,
     ⟨⟨.bin .lss 3 .num (.slot 37) (.slot 39), some 40, none⟩, []⟩,
     ⟨⟨.mv (.slot 40), some 34, none⟩, []⟩])
   (.cond (.slot 34)
    (.seq (.region false [⟨⟨.mv (.slot 0), some 42, none⟩, []⟩,
      ⟨⟨.faddr 0 (.slot 8), some 43, none⟩, []⟩,
      ⟨⟨.load false 1 (.slot 43), some 44, none⟩, []⟩,
      ⟨⟨.faddr 1 (.slot 8), some 45, none⟩, []⟩,
      ⟨⟨.load false 1 (.slot 45), some 46, none⟩, []⟩,
      ⟨⟨.faddr 2 (.slot 3), some 47, none⟩, []⟩,
      ⟨⟨.load false 1 (.slot 47), some 48, none⟩, []⟩,
      ⟨⟨.call (.const (.func 10 [] [])) [(.slot 42), (.slot 44), (.slot 46), (.slot 48)], some 49, none⟩, []⟩,
      ⟨⟨.mv (.slot 49), some 41, none⟩, []⟩,
      ⟨⟨.extract (.slot 41) 0, some 50, none⟩, []⟩,
      ⟨⟨.extract (.slot 41) 1, some 51, none⟩, []⟩,
      ⟨⟨.mv (.slot 50), some 10, none⟩, []⟩,
      ⟨⟨.mv (.slot 51), some 11, none⟩, []⟩])
    (.seq (.seq (.region false [⟨⟨.mv (.slot 11), some 52, none⟩, []⟩,
      ⟨⟨.bin .neq 27 .num (.slot 52) (.const (.int .i64 (.ofNat 0))), some 53, none⟩, []⟩])
    (.cond (.slot 53)
     (.seq (.region false [⟨⟨.mv (.slot 11), some 54, none⟩, []⟩,
       ⟨⟨.mv (.const (.bool false)), some 4, none⟩, []⟩,
       ⟨⟨.mv (.slot 54), some 5, none⟩, []⟩])
     .ret)
     .skip))
    (.seq (.region false [⟨⟨.mv (.slot 0), some 55, none⟩, []⟩,
      ⟨⟨.faddr 0 (.slot 3), some 56, none⟩, []⟩,
      ⟨⟨.load false 1 (.slot 56), some 57, none⟩, []⟩,
      ⟨⟨.mv (.slot 10), some 58, none⟩, []⟩,
      ⟨⟨.call (.const (.func 29 [] [])) [(.slot 55), (.slot 57), (.slot 58)], some 59, none⟩, []⟩,
      ⟨⟨.mv (.const (.bool true)), some 4, none⟩, []⟩,
      ⟨⟨.mv (.slot 59), some 5, none⟩, []⟩])
    .ret)))
    (.seq (.region false [⟨⟨.faddr 2 (.slot 8), some 61, none⟩, []⟩,
      ⟨⟨.load false 1 (.slot 61), some 62, none⟩, []⟩,
      ⟨⟨.mv (.slot 62), some 63, none⟩, []⟩,
      ⟨⟨.faddr 2 (.slot 3), some 64, some (63, true)⟩, []⟩,
      ⟨⟨.load false 1 (.slot 64), some 65, some (63, true)⟩, []⟩,
      ⟨⟨.pick (.slot 63) (.slot 65) (.const (.bool false)), some 66, none⟩, []⟩,
      ⟨⟨.mv (.slot 66), some 60, none⟩, []⟩])
    (.cond (.slot 60)
     (.seq (.region false [⟨⟨.mv (.slot 0), some 67, none⟩, []⟩,
       ⟨⟨.faddr 0 (.slot 3), some 68, none⟩, []⟩,
       ⟨⟨.load false 1 (.slot 68), some 69, none⟩, []⟩,
       ⟨⟨.call (.const (.func 30 [] [])) [(.slot 67), (.slot 69)], some 70, none⟩, []⟩,
       ⟨⟨.mv (.const (.bool true)), some 4, none⟩, []⟩,
       ⟨⟨.mv (.slot 70), some 5, none⟩, []⟩])
     .ret)
     .skip)))))))
  (.seq (.region false [⟨⟨.mv (.const (.bool false)), some 4, none⟩, []⟩,
    ⟨⟨.mv (.const (.int .i64 (.ofNat 0))), some 5, none⟩, []⟩])
  .ret)))))),
  [.tmp 4, .tmp 5]⟩
theorem xf14_ok : compFunc Tryz.prog Tryz.f14 = some xf14 := by kernel_rfl
/-- threshing/base.entry -/
def xf15 : XFunc := ⟨(.seq (.region false [⟨⟨.box (.slot 0), some 1, none⟩, []⟩,
    ⟨⟨.alloc [(.int .i64 (.ofNat 0)), .nils, (.bool false)], some 2, none⟩, []⟩])
  (.seq (.region false [⟨⟨.faddr 1 (.slot 1), some 3, none⟩, []⟩,
    ⟨⟨.load false 1 (.slot 3), some 4, none⟩, []⟩,
    ⟨⟨.call (.const (.func 17 [] [])) [(.slot 4)], some 5, none⟩, []⟩,
    ⟨⟨.faddr 1 (.slot 1), some 6, none⟩, []⟩,
    ⟨⟨.store 1 (.slot 6) (.slot 5), none, none⟩, []⟩])
  (.seq (.region false [⟨⟨.load true 3 (.slot 1), some 7, none⟩, []⟩,
    ⟨⟨.store 3 (.slot 2) (.slot 7), none, none⟩, []⟩])
  .ret))),
  [.cell 2 true 3]⟩
theorem xf15_ok : compFunc Tryz.prog Tryz.f15 = some xf15 := by kernel_rfl
/-- slices.Clone[[]threshing/api.Step,threshing/api.Step] -/
def xf16 : XFunc := ⟨(.seq (.region false [⟨⟨.mv (.const .nils), some 2, none⟩, []⟩])
  (.seq (.seq (.region false [⟨⟨.mv (.slot 0), some 3, none⟩, []⟩,
    ⟨⟨.bin .eql 34 .slice (.slot 3) (.const .nils), some 4, none⟩, []⟩])
  (.cond (.slot 4)
   (.seq (.region false [⟨⟨.mv (.const .nils), some 2, none⟩, []⟩])
   .ret)
   .skip))
  (.seq (.region false [⟨⟨.bslice 4 [] [] 0, some 5, none⟩, []⟩,
    ⟨⟨.mv (.slot 0), some 6, none⟩, []⟩,
    ⟨⟨.append 4 64 (.slot 5) (.slot 6), some 7, none⟩, []⟩,
    ⟨⟨.mv (.slot 7), some 2, none⟩, []⟩])
  .ret))),
  [.tmp 2]⟩
theorem xf16_ok : compFunc Tryz.prog Tryz.f16 = some xf16 := by kernel_rfl
/-- slices.Clone[threshing/api.Clause,threshing/api.Lit] -/
def xf17 : XFunc := ⟨(.seq (.region false [⟨⟨.mv (.const .nils), some 2, none⟩, []⟩])
  (.seq (.seq (.region false [⟨⟨.mv (.slot 0), some 3, none⟩, []⟩,
    ⟨⟨.bin .eql 26 .slice (.slot 3) (.const .nils), some 4, none⟩, []⟩])
  (.cond (.slot 4)
   (.seq (.region false [⟨⟨.mv (.const .nils), some 2, none⟩, []⟩])
   .ret)
   .skip))
  (.seq (.region false [⟨⟨.bslice 1 [] [] 0, some 5, none⟩, []⟩,
    ⟨⟨.mv (.slot 0), some 6, none⟩, []⟩,
    ⟨⟨.append 1 4 (.slot 5) (.slot 6), some 7, none⟩, []⟩,
    ⟨⟨.mv (.slot 7), some 2, none⟩, []⟩])
  .ret))),
  [.tmp 2]⟩
theorem xf17_ok : compFunc Tryz.prog Tryz.f17 = some xf17 := by kernel_rfl
/-- slices.Clone[[]int64,int64] -/
def xf18 : XFunc := ⟨(.seq (.region false [⟨⟨.mv (.const .nils), some 2, none⟩, []⟩])
  (.seq (.seq (.region false [⟨⟨.mv (.slot 0), some 3, none⟩, []⟩,
    ⟨⟨.bin .eql 38 .slice (.slot 3) (.const .nils), some 4, none⟩, []⟩])
  (.cond (.slot 4)
   (.seq (.region false [⟨⟨.mv (.const .nils), some 2, none⟩, []⟩])
   .ret)
   .skip))
  (.seq (.region false [⟨⟨.bslice 1 [] [] 0, some 5, none⟩, []⟩,
    ⟨⟨.mv (.slot 0), some 6, none⟩, []⟩,
    ⟨⟨.append 1 8 (.slot 5) (.slot 6), some 7, none⟩, []⟩,
    ⟨⟨.mv (.slot 7), some 2, none⟩, []⟩])
  .ret))),
  [.tmp 2]⟩
theorem xf18_ok : compFunc Tryz.prog Tryz.f18 = some xf18 := by kernel_rfl
/-- (*threshing/base.Base).full -/
def xf19 : XFunc := ⟨(.seq (.region false [⟨⟨.mv (.const (.bool false)), some 2, none⟩, []⟩])
  (.seq (.region false [⟨⟨.mv (.slot 0), some 3, none⟩, []⟩,
    ⟨⟨.nilCheck (.slot 3), some 4, none⟩, []⟩,
    ⟨⟨.faddr 5 (.slot 4), some 5, none⟩, []⟩,
    ⟨⟨.load false 1 (.slot 5), some 6, none⟩, []⟩,
    ⟨⟨.len .slice (.slot 6), some 7, none⟩, []⟩,
    ⟨⟨.bin .geq 3 .num (.slot 7) (.const (.int .i64 (.ofNat 4194304))), some 8, none⟩, []⟩,
    ⟨⟨.mv (.slot 8), some 2, none⟩, []⟩])
  .ret)),
  [.tmp 2]⟩
theorem xf19_ok : compFunc Tryz.prog Tryz.f19 = some xf19 := by kernel_rfl
/-- (*threshing/base.Base).right -/
def xf20 : XFunc := ⟨(.seq (.region false [⟨⟨.box (.slot 0), some 2, none⟩, []⟩,
    ⟨⟨.mv (.const (.bool false)), some 4, none⟩, []⟩])
  (.seq (.region false [⟨⟨.mv (.slot 1), some 5, none⟩, []⟩,
    ⟨⟨.mkfunc 32 [] [(.slot 2)], some 6, none⟩, []⟩,
    ⟨⟨.call (.const (.func 31 [] [])) [(.slot 5), (.slot 6)], some 7, none⟩, []⟩,
    ⟨⟨.un .not (.slot 7), some 8, none⟩, []⟩,
    ⟨⟨.mv (.slot 8), some 4, none⟩, []⟩])
  .ret)),
  [.tmp 4]⟩
theorem xf20_ok : compFunc Tryz.prog Tryz.f20 = some xf20 := by kernel_rfl
/-- (*threshing/base.Base).follows -/
def xf21 : XFunc := ⟨(.seq (.region false [⟨⟨.mv (.const (.int .i64 (.ofNat 0))), some 6, none⟩, []⟩])
  (.seq (.region false [⟨⟨.mkmap .i32, some 18, none⟩, []⟩,
    ⟨⟨.alloc [.nilm], some 7, none⟩, []⟩,
    ⟨⟨.store 1 (.slot 7) (.slot 18), none, none⟩, []⟩])
  (.seq (.region false [⟨⟨.mkfunc 34 [] [(.slot 7)], some 19, none⟩, []⟩,
    ⟨⟨.mv (.slot 19), some 8, none⟩, []⟩])
  (.seq (.seq (.region false [⟨⟨.mv (.slot 1), some 20, none⟩, []⟩,
    ⟨⟨.len .slice (.slot 20), some 21, none⟩, []⟩,
    ⟨⟨.mv (.const (.int .i64 (.ofNat 0))), some 22, none⟩, []⟩])
  (.block 0 (.loop (.seq (.region false [⟨⟨.bin .lss 3 .num (.slot 22) (.slot 21), some 23, none⟩, []⟩])
   (.seq (.cond (.slot 23)
    .skip
    (.exit 0))
   (.seq (.block 1 (.seq (.region false [⟨⟨.iaddr 1 (.slot 20) (.slot 22), some 24, none⟩, []⟩,
     ⟨⟨.load false 1 (.slot 24), some 25, none⟩, []⟩,
     ⟨⟨.mv (.slot 25), some 10, none⟩, []⟩])
   (.seq (.region false [⟨⟨.mv (.slot 8), some 26, none⟩, []⟩,
     ⟨⟨.mv (.slot 10), some 27, none⟩, []⟩,
     ⟨⟨.call (.slot 26) [(.slot 27)], some 28, none⟩, []⟩])
   (.cond (.slot 28)
    (.seq (.region false [⟨⟨.mv (.const (.int .i64 (.ofNat 0))), some 6, none⟩, []⟩])
    .ret)
    .skip))))
   (.region false [⟨⟨.bin .add 3 .num (.slot 22) (.const (.int .i64 (.ofNat 1))), some 29, none⟩, []⟩,
     ⟨⟨.mv (.slot 29), some 22, none⟩, []⟩])))))))
  (.seq (.seq (.region false [⟨⟨.mv (.slot 2), some 30, none⟩, []⟩,
    ⟨⟨.len .slice (.slot 30), some 31, none⟩, []⟩,
    ⟨⟨.mv (.const (.int .i64 (.ofNat 0))), some 32, none⟩, []⟩])
  (.block 2 (.loop (.seq (.region false [⟨⟨.bin .lss 3 .num (.slot 32) (.slot 31), some 33, none⟩, []⟩])
   (.seq (.cond (.slot 33)
    .skip
    (.exit 2))
   (.seq (.block 3 (.seq (.region false [⟨⟨.iaddr 1 (.slot 30) (.slot 32), some 34, none⟩, []⟩,
     ⟨⟨.load false 1 (.slot 34), some 35, none⟩, []⟩,
     ⟨⟨.mv (.slot 35), some 12, none⟩, []⟩])
   (.seq (.region false [⟨⟨.mv (.slot 0), some 37, none⟩, []⟩,
     ⟨⟨.nilCheck (.slot 37), some 38, none⟩, []⟩,
     ⟨⟨.faddr 1 (.slot 38), some 39, none⟩, []⟩,
     ⟨⟨.load false 1 (.slot 39), some 40, none⟩, []⟩,
     ⟨⟨.mv (.slot 12), some 41, none⟩, []⟩,
     ⟨⟨.lookup .i64 (.agg [(.int .i64 (.ofNat 0)), .nils, (.bool false)]) (.slot 40) (.slot 41) true, some 42, none⟩, []⟩,
     ⟨⟨.mv (.slot 42), some 36, none⟩, []⟩,
     ⟨⟨.extract (.slot 36) 0, some 43, none⟩, []⟩,
     ⟨⟨.extract (.slot 36) 1, some 44, none⟩, []⟩,
     ⟨⟨.alloc [(.int .i64 (.ofNat 0)), .nils, (.bool false)], some 13, none⟩, []⟩,
     ⟨⟨.store 3 (.slot 13) (.slot 43), none, none⟩, []⟩,
     ⟨⟨.mv (.slot 44), some 14, none⟩, []⟩])
   (.seq (.seq (.region false [⟨⟨.mv (.slot 14), some 45, none⟩, []⟩,
     ⟨⟨.un .not (.slot 45), some 46, none⟩, []⟩])
   (.cond (.slot 46)
    (.seq (.region false [⟨⟨.mv (.const (.int .i64 (.ofNat 60))), some 6, none⟩, []⟩])
    .ret)
    .skip))
   (.seq (.region false [⟨⟨.mv (.const (.int .i32 (.ofNat 0))), some 15, none⟩, []⟩])
   (.seq (.seq (.region false [⟨⟨.faddr 1 (.slot 13), some 47, none⟩, []⟩,
     ⟨⟨.load false 1 (.slot 47), some 48, none⟩, []⟩,
     ⟨⟨.len .slice (.slot 48), some 49, none⟩, []⟩,
     ⟨⟨.mv (.const (.int .i64 (.ofNat 0))), some 50, none⟩, []⟩])
   (.block 4 (.loop (.seq (.region false [⟨⟨.bin .lss 3 .num (.slot 50) (.slot 49), some 51, none⟩, []⟩])
    (.seq (.cond (.slot 51)
     .skip
     (.exit 4))
    (.seq (.block 5 (.seq (.region false [⟨⟨.iaddr 1 (.slot 48) (.slot 50), some 52, none⟩, []⟩,
      ⟨⟨.load false 1 (.slot 52), some 53, none⟩, []⟩,
      ⟨⟨.mv (.slot 53), some 17, none⟩, []⟩])
    (.block 6 (.seq (.seq (.region false [⟨⟨.load false 1 (.slot 7), some 56, none⟩, []⟩,
      ⟨⟨.mv (.slot 17), some 57, none⟩, []⟩,
      ⟨⟨.lookup .i32 (.bool false) (.slot 56) (.slot 57) false, some 58, none⟩, []⟩,
      ⟨⟨.mv (.slot 58), some 55, none⟩, []⟩])
    (.cond (.slot 55)
     .skip
     (.region false [⟨⟨.mv (.slot 17), some 59, none⟩, []⟩,
       ⟨⟨.mv (.slot 15), some 60, none⟩, []⟩,
       ⟨⟨.bin .eql 24 .num (.slot 59) (.slot 60), some 61, none⟩, []⟩,
       ⟨⟨.mv (.slot 61), some 55, none⟩, []⟩])))
    (.cond (.slot 55)
     .skip
     (.seq (.region false [⟨⟨.mv (.slot 15), some 63, none⟩, []⟩,
       ⟨⟨.bin .neq 24 .num (.slot 63) (.const (.int .i32 (.ofNat 0))), some 64, none⟩, []⟩,
       ⟨⟨.mv (.slot 64), some 62, none⟩, []⟩])
     (.cond (.slot 62)
      (.seq (.region false [⟨⟨.mv (.const (.int .i64 (.ofNat 60))), some 6, none⟩, []⟩])
      .ret)
      (.region false [⟨⟨.mv (.slot 17), some 54, none⟩, []⟩,
        ⟨⟨.mv (.slot 54), some 15, none⟩, []⟩]))))))))
    (.region false [⟨⟨.bin .add 3 .num (.slot 50) (.const (.int .i64 (.ofNat 1))), some 65, none⟩, []⟩,
      ⟨⟨.mv (.slot 65), some 50, none⟩, []⟩])))))))
   (.seq (.block 7 (.seq (.region false [⟨⟨.mv (.slot 15), some 67, none⟩, []⟩,
     ⟨⟨.bin .eql 24 .num (.slot 67) (.const (.int .i32 (.ofNat 0))), some 68, none⟩, []⟩,
     ⟨⟨.mv (.slot 68), some 66, none⟩, []⟩])
   (.cond (.slot 66)
    (.seq (.region false [⟨⟨.mv (.const (.int .i64 (.ofNat 0))), some 6, none⟩, []⟩])
    .ret)
    (.seq (.region false [⟨⟨.load false 1 (.slot 7), some 70, none⟩, []⟩,
      ⟨⟨.mv (.slot 15), some 71, none⟩, []⟩,
      ⟨⟨.un .neg (.slot 71), some 72, none⟩, []⟩,
      ⟨⟨.lookup .i32 (.bool false) (.slot 70) (.slot 72) false, some 73, none⟩, []⟩,
      ⟨⟨.mv (.slot 73), some 69, none⟩, []⟩])
    (.cond (.slot 69)
     (.seq (.region false [⟨⟨.mv (.const (.int .i64 (.ofNat 60))), some 6, none⟩, []⟩])
     .ret)
     .skip)))))
   (.region false [⟨⟨.mv (.slot 8), some 74, none⟩, []⟩,
     ⟨⟨.mv (.slot 15), some 75, none⟩, []⟩,
     ⟨⟨.un .neg (.slot 75), some 76, none⟩, []⟩,
     ⟨⟨.call (.slot 74) [(.slot 76)], some 77, none⟩, []⟩]))))))))
   (.region false [⟨⟨.bin .add 3 .num (.slot 32) (.const (.int .i64 (.ofNat 1))), some 78, none⟩, []⟩,
     ⟨⟨.mv (.slot 78), some 32, none⟩, []⟩])))))))
  (.seq (.region false [⟨⟨.mv (.const (.int .i64 (.ofNat 61))), some 6, none⟩, []⟩])
  .ret)))))),
  [.tmp 6]⟩
theorem xf21_ok : compFunc Tryz.prog Tryz.f21 = some xf21 := by kernel_rfl
/-- (*threshing/base.Base).put -/
def xf22 : XFunc := ⟨(.seq (.region false [⟨⟨.mv (.slot 0), some 8, none⟩, []⟩,
    ⟨⟨.nilCheck (.slot 8), some 9, none⟩, []⟩,
    ⟨⟨.faddr 4 (.slot 9), some 10, none⟩, []⟩,
    ⟨⟨.load false 1 (.slot 10), some 11, none⟩, []⟩,
    ⟨⟨.bin .add 2 .num (.slot 11) (.const (.int .i64 (.ofNat 1))), some 12, none⟩, []⟩,
    ⟨⟨.nilCheck (.slot 8), some 13, none⟩, []⟩,
    ⟨⟨.faddr 4 (.slot 13), some 14, none⟩, []⟩,
    ⟨⟨.store 1 (.slot 14) (.slot 12), none, none⟩, []⟩])
  (.seq (.region true [⟨⟨.mv (.slot 0), some 15, none⟩, []⟩,
    ⟨⟨.nilCheck (.slot 15), some 16, none⟩, []⟩,
    ⟨⟨.faddr 1 (.slot 16), some 17, none⟩, []⟩,
    ⟨⟨.load false 1 (.slot 17), some 18, none⟩, []⟩,
    ⟨⟨.mv (.slot 0), some 19, none⟩, []⟩,
    ⟨⟨.nilCheck (.slot 19), some 20, none⟩, []⟩,
    ⟨⟨.faddr 4 (.slot 20), some 21, none⟩, []⟩,
    ⟨⟨.load false 1 (.slot 21), some 22, none⟩, []⟩,
    ⟨⟨.mv (.slot 0), some 23, none⟩, []⟩,
    ⟨⟨.nilCheck (.slot 23), some 24, none⟩, []⟩,
    ⟨⟨.faddr 4 (.slot 24), some 25, none⟩, []⟩,
    ⟨⟨.load false 1 (.slot 25), some 26, none⟩, []⟩,
    ⟨⟨.mv (.slot 1), some 27, none⟩, []⟩,
    ⟨⟨.mv (.slot 2), some 29, none⟩, []⟩,
    ⟨⟨.call (.const (.func 17 [] [])) [(.slot 27)], some 28, none⟩, [⟨.load false 1 (.slot 17), some 18, none⟩, ⟨.load false 1 (.slot 21), some 22, none⟩, ⟨.load false 1 (.slot 25), some 26, none⟩]⟩,
    ⟨⟨.build [(.int .i64 (.ofNat 0)), .nils, (.bool false)] [(0, 1, (.slot 26)), (1, 1, (.slot 28)), (2, 1, (.slot 29))], some 30, none⟩, []⟩,
    ⟨⟨.mapup .i64 (.slot 18) (.slot 22) (.slot 30), none, none⟩, []⟩])
  (.seq (.seq (.region false [⟨⟨.mv (.slot 1), some 31, none⟩, []⟩,
    ⟨⟨.len .slice (.slot 31), some 32, none⟩, []⟩,
    ⟨⟨.bin .eql 3 .num (.slot 32) (.const (.int .i64 (.ofNat 0))), some 33, none⟩, []⟩])
  (.cond (.slot 33)
   (.region true [⟨⟨.mv (.slot 0), some 34, none⟩, []⟩,
     ⟨⟨.nilCheck (.slot 34), some 35, none⟩, []⟩,
     ⟨⟨.faddr 3 (.slot 35), some 36, none⟩, []⟩,
     ⟨⟨.load false 1 (.slot 36), some 37, none⟩, []⟩,
     ⟨⟨.mv (.slot 0), some 38, none⟩, []⟩,
     ⟨⟨.nilCheck (.slot 38), some 39, none⟩, []⟩,
     ⟨⟨.faddr 4 (.slot 39), some 40, none⟩, []⟩,
     ⟨⟨.load false 1 (.slot 40), some 41, none⟩, []⟩,
     ⟨⟨.mapup .i64 (.slot 37) (.slot 41) (.const (.bool true)), none, none⟩, []⟩])
   .skip))
  (.seq (.region false [⟨⟨.mv (.slot 1), some 42, none⟩, []⟩,
    ⟨⟨.len .slice (.slot 42), some 43, none⟩, []⟩,
    ⟨⟨.mv (.const (.int .i64 (.ofNat 0))), some 44, none⟩, []⟩])
  (.block 0 (.loop (.seq (.region false [⟨⟨.bin .lss 3 .num (.slot 44) (.slot 43), some 45, none⟩, []⟩])
   (.seq (.cond (.slot 45)
    .skip
    (.exit 0))
   (.seq (.block 1 (.seq (.region false [⟨⟨.iaddr 1 (.slot 42) (.slot 44), some 46, none⟩, []⟩,
     ⟨⟨.load false 1 (.slot 46), some 47, none⟩, []⟩,
     ⟨⟨.mv (.slot 47), some 7, none⟩, []⟩])
   (.seq (.seq (.region false [⟨⟨.mv (.slot 0), some 48, none⟩, []⟩,
     ⟨⟨.nilCheck (.slot 48), some 49, none⟩, []⟩,
     ⟨⟨.faddr 2 (.slot 49), some 50, none⟩, []⟩,
     ⟨⟨.load false 1 (.slot 50), some 51, none⟩, []⟩,
     ⟨⟨.mv (.slot 7), some 52, none⟩, []⟩,
     ⟨⟨.lookup .i32 .nilm (.slot 51) (.slot 52) false, some 53, none⟩, []⟩,
     ⟨⟨.bin .eql 55 .map (.slot 53) (.const .nilm), some 54, none⟩, []⟩])
   (.cond (.slot 54)
    (.region false [⟨⟨.mv (.slot 0), some 55, none⟩, []⟩,
      ⟨⟨.nilCheck (.slot 55), some 56, none⟩, []⟩,
      ⟨⟨.faddr 2 (.slot 56), some 57, none⟩, []⟩,
      ⟨⟨.load false 1 (.slot 57), some 58, none⟩, []⟩,
      ⟨⟨.mv (.slot 7), some 59, none⟩, []⟩,
      ⟨⟨.mkmap .i64, some 60, none⟩, []⟩,
      ⟨⟨.mapup .i32 (.slot 58) (.slot 59) (.slot 60), none, none⟩, []⟩])
    .skip))
   (.region true [⟨⟨.mv (.slot 0), some 61, none⟩, []⟩,
     ⟨⟨.nilCheck (.slot 61), some 62, none⟩, []⟩,
     ⟨⟨.faddr 2 (.slot 62), some 63, none⟩, []⟩,
     ⟨⟨.load false 1 (.slot 63), some 64, none⟩, []⟩,
     ⟨⟨.mv (.slot 7), some 65, none⟩, []⟩,
     ⟨⟨.lookup .i32 .nilm (.slot 64) (.slot 65) false, some 66, none⟩, []⟩,
     ⟨⟨.mv (.slot 0), some 67, none⟩, []⟩,
     ⟨⟨.nilCheck (.slot 67), some 68, none⟩, []⟩,
     ⟨⟨.faddr 4 (.slot 68), some 69, none⟩, []⟩,
     ⟨⟨.load false 1 (.slot 69), some 70, none⟩, []⟩,
     ⟨⟨.mapup .i64 (.slot 66) (.slot 70) (.const (.bool true)), none, none⟩, []⟩]))))
   (.region false [⟨⟨.bin .add 3 .num (.slot 44) (.const (.int .i64 (.ofNat 1))), some 71, none⟩, []⟩,
     ⟨⟨.mv (.slot 71), some 44, none⟩, []⟩])))))))))),
  []⟩
theorem xf22_ok : compFunc Tryz.prog Tryz.f22 = some xf22 := by kernel_rfl
end Go.Proofs.YtdegagpgjejomaaGreat

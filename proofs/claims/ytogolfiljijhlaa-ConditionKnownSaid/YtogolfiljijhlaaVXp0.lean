/- The functions of the program in X's code, printed by a program of ours; each is what the program's own is turned to. -/
import Derived.Test.YtogolfiljijhlaaProg
import Derived.Test.YtogolfiljijhlaaW0
import Derived.KernelRfl
namespace Go.Proofs.Ytogolfiljijhlaa
open Go.Xr
/- gosem.cut.init -/
def r2_0 : List XLine := [⟨⟨.call (.const (.func 1 [] [])) [], some 0, none⟩, []⟩]
def xf2 : XFunc := ⟨(.region false r2_0),
  []⟩
theorem xf2_ok : compFunc Try.prog Try.f2 = some xf2 := by kernel_rfl
/- threshing/threshinglaw29.ConditionKnown -/
def r3_0 : List XLine := [⟨⟨.mv (.const (.bool false)), some 0, none⟩, []⟩]
def r3_1 : List XLine := [⟨⟨.bslice 1 [(.int .i32 (.ofNat 0)), (.int .i32 (.ofNat 0))] [(0, 1, (.const (.int .i32 (.ofNat 1)))), (1, 1, (.const (.int .i32 (.negSucc 1))))] 2, some 24, none⟩, []⟩,
  ⟨⟨.bslice 1 [(.int .i32 (.ofNat 0)), (.int .i32 (.ofNat 0))] [(0, 1, (.const (.int .i32 (.negSucc 0)))), (1, 1, (.const (.int .i32 (.negSucc 2))))] 2, some 25, none⟩, []⟩,
  ⟨⟨.bslice 1 [(.int .i32 (.ofNat 0)), (.int .i32 (.ofNat 0))] [(0, 1, (.const (.int .i32 (.ofNat 2)))), (1, 1, (.const (.int .i32 (.ofNat 3))))] 2, some 26, none⟩, []⟩,
  ⟨⟨.bslice 1 [.nils, .nils, .nils] [(0, 1, (.slot 24)), (1, 1, (.slot 25)), (2, 1, (.slot 26))] 3, some 27, none⟩, []⟩,
  ⟨⟨.call (.const (.func 4 [] [])) [(.slot 27)], some 28, none⟩, []⟩,
  ⟨⟨.mv (.slot 28), some 1, none⟩, []⟩]
def r3_2 : List XLine := [⟨⟨.mv (.slot 1), some 30, none⟩, []⟩,
  ⟨⟨.call (.const (.func 6 [] [])) [], some 31, none⟩, []⟩,
  ⟨⟨.call (.const (.func 5 [] [])) [(.slot 30), (.slot 31), (.const (.int .i64 (.ofNat 9)))], some 32, none⟩, []⟩,
  ⟨⟨.mv (.slot 32), some 29, none⟩, []⟩,
  ⟨⟨.extract (.slot 29) 0, some 33, none⟩, []⟩,
  ⟨⟨.extract (.slot 29) 1, some 34, none⟩, []⟩,
  ⟨⟨.mv (.slot 33), some 2, none⟩, []⟩,
  ⟨⟨.mv (.slot 34), some 3, none⟩, []⟩]
def r3_3 : List XLine := [⟨⟨.bslice 1 [(.int .i32 (.ofNat 0)), (.int .i32 (.ofNat 0))] [(0, 1, (.const (.int .i32 (.ofNat 2)))), (1, 1, (.const (.int .i32 (.negSucc 2))))] 2, some 35, none⟩, []⟩,
  ⟨⟨.bslice 1 [(.int .i32 (.ofNat 0))] [(0, 1, (.const (.int .i32 (.negSucc 0))))] 1, some 36, none⟩, []⟩,
  ⟨⟨.bslice 1 [(.int .i32 (.ofNat 0)), (.int .i32 (.ofNat 0)), (.int .i32 (.ofNat 0))] [(0, 1, (.const (.int .i32 (.ofNat 1)))), (1, 1, (.const (.int .i32 (.negSucc 1)))), (2, 1, (.const (.int .i32 (.ofNat 3))))] 3, some 37, none⟩, []⟩,
  ⟨⟨.bslice 1 [.nils, .nils, .nils] [(0, 1, (.slot 35)), (1, 1, (.slot 36)), (2, 1, (.slot 37))] 3, some 38, none⟩, []⟩,
  ⟨⟨.call (.const (.func 4 [] [])) [(.slot 38)], some 39, none⟩, []⟩,
  ⟨⟨.mv (.slot 39), some 4, none⟩, []⟩]
def r3_4 : List XLine := [⟨⟨.mv (.slot 4), some 41, none⟩, []⟩,
  ⟨⟨.call (.const (.func 6 [] [])) [], some 42, none⟩, []⟩,
  ⟨⟨.call (.const (.func 5 [] [])) [(.slot 41), (.slot 42), (.const (.int .i64 (.ofNat 9)))], some 43, none⟩, []⟩,
  ⟨⟨.mv (.slot 43), some 40, none⟩, []⟩,
  ⟨⟨.extract (.slot 40) 0, some 44, none⟩, []⟩,
  ⟨⟨.extract (.slot 40) 1, some 45, none⟩, []⟩,
  ⟨⟨.mv (.slot 44), some 5, none⟩, []⟩,
  ⟨⟨.mv (.slot 45), some 6, none⟩, []⟩]
def r3_5 : List XLine := [⟨⟨.mv (.slot 4), some 46, none⟩, []⟩,
  ⟨⟨.call (.const (.func 7 [] [])) [(.slot 46)], some 47, none⟩, []⟩,
  ⟨⟨.mv (.slot 47), some 7, none⟩, []⟩]
def r3_6 : List XLine := [⟨⟨.mv (.slot 2), some 48, none⟩, []⟩,
  ⟨⟨.bin .eql 3 .num (.slot 48) (.const (.int .i64 (.ofNat 0))), some 49, none⟩, []⟩,
  ⟨⟨.mv (.slot 49), some 50, none⟩, []⟩,
  ⟨⟨.mv (.slot 3), some 51, some (50, true)⟩, []⟩,
  ⟨⟨.bin .eql 27 .num (.slot 51) (.const (.int .i64 (.ofNat 0))), some 52, some (50, true)⟩, []⟩,
  ⟨⟨.pick (.slot 50) (.slot 52) (.const (.bool false)), some 53, none⟩, []⟩,
  ⟨⟨.mv (.slot 53), some 54, none⟩, []⟩,
  ⟨⟨.mv (.slot 5), some 55, some (54, true)⟩, []⟩,
  ⟨⟨.bin .eql 3 .num (.slot 55) (.const (.int .i64 (.ofNat 2))), some 56, some (54, true)⟩, []⟩,
  ⟨⟨.pick (.slot 54) (.slot 56) (.const (.bool false)), some 57, none⟩, []⟩,
  ⟨⟨.mv (.slot 57), some 58, none⟩, []⟩,
  ⟨⟨.mv (.slot 6), some 59, some (58, true)⟩, []⟩,
  ⟨⟨.bin .eql 27 .num (.slot 59) (.const (.int .i64 (.ofNat 0))), some 60, some (58, true)⟩, []⟩,
  ⟨⟨.pick (.slot 58) (.slot 60) (.const (.bool false)), some 61, none⟩, []⟩,
  ⟨⟨.mv (.slot 61), some 62, none⟩, []⟩,
  ⟨⟨.mv (.slot 7), some 63, some (62, true)⟩, []⟩,
  ⟨⟨.len .slice (.slot 63), some 64, some (62, true)⟩, []⟩,
  ⟨⟨.bin .eql 3 .num (.slot 64) (.const (.int .i64 (.ofNat 2))), some 65, some (62, true)⟩, []⟩,
  ⟨⟨.pick (.slot 62) (.slot 65) (.const (.bool false)), some 66, none⟩, []⟩,
  ⟨⟨.mv (.slot 66), some 67, none⟩, []⟩,
  ⟨⟨.mv (.slot 7), some 68, some (67, true)⟩, []⟩,
  ⟨⟨.iaddr 2 (.slot 68) (.const (.int .i64 (.ofNat 0))), some 69, some (67, true)⟩, []⟩,
  ⟨⟨.faddr 0 (.slot 69), some 70, some (67, true)⟩, []⟩,
  ⟨⟨.load false 1 (.slot 70), some 71, some (67, true)⟩, []⟩,
  ⟨⟨.bslice 1 [(.int .i32 (.ofNat 0)), (.int .i32 (.ofNat 0))] [(0, 1, (.const (.int .i32 (.ofNat 2)))), (1, 1, (.const (.int .i32 (.ofNat 3))))] 2, some 72, some (67, true)⟩, []⟩,
  ⟨⟨.call (.const (.func 8 [] [])) [(.slot 71), (.slot 72)], some 73, some (67, true)⟩, []⟩,
  ⟨⟨.pick (.slot 67) (.slot 73) (.const (.bool false)), some 74, none⟩, []⟩,
  ⟨⟨.mv (.slot 74), some 75, none⟩, []⟩,
  ⟨⟨.mv (.slot 7), some 76, some (75, true)⟩, []⟩,
  ⟨⟨.iaddr 2 (.slot 76) (.const (.int .i64 (.ofNat 1))), some 77, some (75, true)⟩, []⟩,
  ⟨⟨.faddr 0 (.slot 77), some 78, some (75, true)⟩, []⟩,
  ⟨⟨.load false 1 (.slot 78), some 79, some (75, true)⟩, []⟩,
  ⟨⟨.bslice 1 [(.int .i32 (.ofNat 0)), (.int .i32 (.ofNat 0))] [(0, 1, (.const (.int .i32 (.ofNat 3)))), (1, 1, (.const (.int .i32 (.ofNat 2))))] 2, some 80, some (75, true)⟩, []⟩,
  ⟨⟨.call (.const (.func 8 [] [])) [(.slot 79), (.slot 80)], some 81, some (75, true)⟩, []⟩,
  ⟨⟨.pick (.slot 75) (.slot 81) (.const (.bool false)), some 82, none⟩, []⟩,
  ⟨⟨.mv (.slot 82), some 8, none⟩, []⟩]
def r3_7 : List XLine := [⟨⟨.bslice 1 [(.int .i32 (.ofNat 0)), (.int .i32 (.ofNat 0))] [(0, 1, (.const (.int .i32 (.negSucc 0)))), (1, 1, (.const (.int .i32 (.negSucc 1))))] 2, some 83, none⟩, []⟩,
  ⟨⟨.bslice 1 [(.int .i32 (.ofNat 0)), (.int .i32 (.ofNat 0))] [(0, 1, (.const (.int .i32 (.ofNat 1)))), (1, 1, (.const (.int .i32 (.negSucc 0))))] 2, some 84, none⟩, []⟩,
  ⟨⟨.bslice 1 [(.int .i32 (.ofNat 0))] [(0, 1, (.const (.int .i32 (.negSucc 2))))] 1, some 85, none⟩, []⟩,
  ⟨⟨.bslice 1 [.nils, .nils, .nils] [(0, 1, (.slot 83)), (1, 1, (.slot 84)), (2, 1, (.slot 85))] 3, some 86, none⟩, []⟩,
  ⟨⟨.call (.const (.func 4 [] [])) [(.slot 86)], some 87, none⟩, []⟩,
  ⟨⟨.mv (.slot 87), some 9, none⟩, []⟩]
def r3_8 : List XLine := [⟨⟨.mv (.slot 9), some 89, none⟩, []⟩,
  ⟨⟨.bslice 1 [(.int .i32 (.ofNat 0)), (.int .i32 (.ofNat 0))] [(0, 1, (.const (.int .i32 (.negSucc 2)))), (1, 1, (.const (.int .i32 (.ofNat 1))))] 2, some 90, none⟩, []⟩,
  ⟨⟨.bslice 1 [(.int .i64 (.ofNat 0))] [(0, 1, (.const (.int .i64 (.ofNat 3))))] 1, some 91, none⟩, []⟩,
  ⟨⟨.call (.const (.func 9 [] [])) [(.slot 89), (.slot 90), (.slot 91), (.const (.bool true))], some 92, none⟩, []⟩,
  ⟨⟨.mv (.slot 92), some 88, none⟩, []⟩,
  ⟨⟨.extract (.slot 88) 0, some 93, none⟩, []⟩,
  ⟨⟨.extract (.slot 88) 1, some 94, none⟩, []⟩,
  ⟨⟨.mv (.slot 93), some 10, none⟩, []⟩,
  ⟨⟨.mv (.slot 94), some 11, none⟩, []⟩]
def r3_9 : List XLine := [⟨⟨.mv (.slot 9), some 96, none⟩, []⟩,
  ⟨⟨.call (.const (.func 5 [] [])) [(.slot 96), (.const .nils), (.const (.int .i64 (.ofNat 9)))], some 97, none⟩, []⟩,
  ⟨⟨.mv (.slot 97), some 95, none⟩, []⟩,
  ⟨⟨.extract (.slot 95) 0, some 98, none⟩, []⟩,
  ⟨⟨.extract (.slot 95) 1, some 99, none⟩, []⟩,
  ⟨⟨.mv (.slot 98), some 12, none⟩, []⟩,
  ⟨⟨.mv (.slot 99), some 13, none⟩, []⟩]
def r3_10 : List XLine := [⟨⟨.mv (.slot 9), some 100, none⟩, []⟩,
  ⟨⟨.call (.const (.func 10 [] [])) [(.slot 100)], some 101, none⟩, []⟩,
  ⟨⟨.mv (.slot 101), some 14, none⟩, []⟩]
def r3_11 : List XLine := [⟨⟨.mv (.slot 11), some 102, none⟩, []⟩,
  ⟨⟨.bin .eql 27 .num (.slot 102) (.const (.int .i64 (.ofNat 0))), some 103, none⟩, []⟩,
  ⟨⟨.mv (.slot 103), some 104, none⟩, []⟩,
  ⟨⟨.mv (.slot 12), some 105, some (104, true)⟩, []⟩,
  ⟨⟨.bin .eql 3 .num (.slot 105) (.const (.int .i64 (.ofNat 2))), some 106, some (104, true)⟩, []⟩,
  ⟨⟨.pick (.slot 104) (.slot 106) (.const (.bool false)), some 107, none⟩, []⟩,
  ⟨⟨.mv (.slot 107), some 108, none⟩, []⟩,
  ⟨⟨.mv (.slot 13), some 109, some (108, true)⟩, []⟩,
  ⟨⟨.bin .eql 27 .num (.slot 109) (.const (.int .i64 (.ofNat 0))), some 110, some (108, true)⟩, []⟩,
  ⟨⟨.pick (.slot 108) (.slot 110) (.const (.bool false)), some 111, none⟩, []⟩,
  ⟨⟨.mv (.slot 111), some 112, none⟩, []⟩,
  ⟨⟨.mv (.slot 14), some 113, some (112, true)⟩, []⟩,
  ⟨⟨.len .slice (.slot 113), some 114, some (112, true)⟩, []⟩,
  ⟨⟨.bin .eql 3 .num (.slot 114) (.const (.int .i64 (.ofNat 2))), some 115, some (112, true)⟩, []⟩,
  ⟨⟨.pick (.slot 112) (.slot 115) (.const (.bool false)), some 116, none⟩, []⟩,
  ⟨⟨.mv (.slot 116), some 117, none⟩, []⟩,
  ⟨⟨.mv (.slot 14), some 118, some (117, true)⟩, []⟩,
  ⟨⟨.iaddr 3 (.slot 118) (.const (.int .i64 (.ofNat 0))), some 119, some (117, true)⟩, []⟩,
  ⟨⟨.faddr 0 (.slot 119), some 120, some (117, true)⟩, []⟩,
  ⟨⟨.load false 1 (.slot 120), some 121, some (117, true)⟩, []⟩,
  ⟨⟨.bin .eql 2 .num (.slot 121) (.const (.int .i64 (.ofNat 2))), some 122, some (117, true)⟩, []⟩,
  ⟨⟨.pick (.slot 117) (.slot 122) (.const (.bool false)), some 123, none⟩, []⟩,
  ⟨⟨.mv (.slot 123), some 124, none⟩, []⟩,
  ⟨⟨.mv (.slot 14), some 125, some (124, true)⟩, []⟩,
  ⟨⟨.iaddr 3 (.slot 125) (.const (.int .i64 (.ofNat 1))), some 126, some (124, true)⟩, []⟩,
  ⟨⟨.faddr 0 (.slot 126), some 127, some (124, true)⟩, []⟩,
  ⟨⟨.load false 1 (.slot 127), some 128, some (124, true)⟩, []⟩,
  ⟨⟨.mv (.slot 10), some 129, some (124, true)⟩, []⟩,
  ⟨⟨.bin .eql 2 .num (.slot 128) (.slot 129), some 130, some (124, true)⟩, []⟩,
  ⟨⟨.pick (.slot 124) (.slot 130) (.const (.bool false)), some 131, none⟩, []⟩,
  ⟨⟨.mv (.slot 131), some 15, none⟩, []⟩]
def r3_12 : List XLine := [⟨⟨.call (.const (.func 5 [] [])) [(.const .nilp), (.const .nils), (.const (.int .i64 (.ofNat 1)))], some 133, none⟩, []⟩,
  ⟨⟨.mv (.slot 133), some 132, none⟩, []⟩,
  ⟨⟨.extract (.slot 132) 0, some 134, none⟩, []⟩,
  ⟨⟨.extract (.slot 132) 1, some 135, none⟩, []⟩,
  ⟨⟨.mv (.slot 134), some 16, none⟩, []⟩,
  ⟨⟨.mv (.slot 135), some 17, none⟩, []⟩]
def r3_13 : List XLine := [⟨⟨.mv (.slot 1), some 137, none⟩, []⟩,
  ⟨⟨.call (.const (.func 5 [] [])) [(.slot 137), (.const .nils), (.const (.int .i64 (.negSucc 0)))], some 138, none⟩, []⟩,
  ⟨⟨.mv (.slot 138), some 136, none⟩, []⟩,
  ⟨⟨.extract (.slot 136) 0, some 139, none⟩, []⟩,
  ⟨⟨.extract (.slot 136) 1, some 140, none⟩, []⟩,
  ⟨⟨.mv (.slot 139), some 18, none⟩, []⟩,
  ⟨⟨.mv (.slot 140), some 19, none⟩, []⟩]
def r3_14 : List XLine := [⟨⟨.bslice 1 [(.int .i32 (.ofNat 0)), (.int .i32 (.ofNat 0))] [(0, 1, (.const (.int .i32 (.ofNat 1)))), (1, 1, (.const (.int .i32 (.ofNat 2))))] 2, some 142, none⟩, []⟩,
  ⟨⟨.bslice 1 [.nils] [(0, 1, (.slot 142))] 1, some 143, none⟩, []⟩,
  ⟨⟨.call (.const (.func 4 [] [])) [(.slot 143)], some 144, none⟩, []⟩,
  ⟨⟨.call (.const (.func 6 [] [])) [], some 145, none⟩, []⟩,
  ⟨⟨.call (.const (.func 5 [] [])) [(.slot 144), (.slot 145), (.const (.int .i64 (.ofNat 0)))], some 146, none⟩, []⟩,
  ⟨⟨.mv (.slot 146), some 141, none⟩, []⟩,
  ⟨⟨.extract (.slot 141) 0, some 147, none⟩, []⟩,
  ⟨⟨.extract (.slot 141) 1, some 148, none⟩, []⟩,
  ⟨⟨.mv (.slot 147), some 20, none⟩, []⟩,
  ⟨⟨.mv (.slot 148), some 21, none⟩, []⟩]
def r3_15 : List XLine := [⟨⟨.bslice 1 [] [] 0, some 150, none⟩, []⟩,
  ⟨⟨.bslice 1 [.nils] [(0, 1, (.slot 150))] 1, some 151, none⟩, []⟩,
  ⟨⟨.call (.const (.func 4 [] [])) [(.slot 151)], some 152, none⟩, []⟩,
  ⟨⟨.call (.const (.func 6 [] [])) [], some 153, none⟩, []⟩,
  ⟨⟨.call (.const (.func 5 [] [])) [(.slot 152), (.slot 153), (.const (.int .i64 (.ofNat 9)))], some 154, none⟩, []⟩,
  ⟨⟨.mv (.slot 154), some 149, none⟩, []⟩,
  ⟨⟨.extract (.slot 149) 0, some 155, none⟩, []⟩,
  ⟨⟨.extract (.slot 149) 1, some 156, none⟩, []⟩,
  ⟨⟨.mv (.slot 155), some 22, none⟩, []⟩,
  ⟨⟨.mv (.slot 156), some 23, none⟩, []⟩]
def r3_16 : List XLine := [⟨⟨.mv (.slot 8), some 157, none⟩, []⟩,
  ⟨⟨.mv (.slot 157), some 158, none⟩, []⟩,
  ⟨⟨.mv (.slot 15), some 159, some (158, true)⟩, []⟩,
  ⟨⟨.pick (.slot 158) (.slot 159) (.const (.bool false)), some 160, none⟩, []⟩,
  ⟨⟨.mv (.slot 160), some 161, none⟩, []⟩,
  ⟨⟨.mv (.slot 17), some 162, some (161, true)⟩, []⟩,
  ⟨⟨.bin .eql 27 .num (.slot 162) (.const (.int .i64 (.ofNat 1))), some 163, some (161, true)⟩, []⟩,
  ⟨⟨.pick (.slot 161) (.slot 163) (.const (.bool false)), some 164, none⟩, []⟩,
  ⟨⟨.mv (.slot 164), some 165, none⟩, []⟩,
  ⟨⟨.mv (.slot 19), some 166, some (165, true)⟩, []⟩,
  ⟨⟨.bin .eql 27 .num (.slot 166) (.const (.int .i64 (.ofNat 2))), some 167, some (165, true)⟩, []⟩,
  ⟨⟨.pick (.slot 165) (.slot 167) (.const (.bool false)), some 168, none⟩, []⟩,
  ⟨⟨.mv (.slot 168), some 169, none⟩, []⟩,
  ⟨⟨.mv (.slot 20), some 170, some (169, true)⟩, []⟩,
  ⟨⟨.bin .eql 3 .num (.slot 170) (.const (.int .i64 (.ofNat 0))), some 171, some (169, true)⟩, []⟩,
  ⟨⟨.pick (.slot 169) (.slot 171) (.const (.bool false)), some 172, none⟩, []⟩,
  ⟨⟨.mv (.slot 172), some 173, none⟩, []⟩,
  ⟨⟨.mv (.slot 21), some 174, some (173, true)⟩, []⟩,
  ⟨⟨.bin .eql 27 .num (.slot 174) (.const (.int .i64 (.ofNat 0))), some 175, some (173, true)⟩, []⟩,
  ⟨⟨.pick (.slot 173) (.slot 175) (.const (.bool false)), some 176, none⟩, []⟩,
  ⟨⟨.mv (.slot 176), some 177, none⟩, []⟩,
  ⟨⟨.mv (.slot 22), some 178, some (177, true)⟩, []⟩,
  ⟨⟨.bin .eql 3 .num (.slot 178) (.const (.int .i64 (.ofNat 0))), some 179, some (177, true)⟩, []⟩,
  ⟨⟨.pick (.slot 177) (.slot 179) (.const (.bool false)), some 180, none⟩, []⟩,
  ⟨⟨.mv (.slot 180), some 181, none⟩, []⟩,
  ⟨⟨.mv (.slot 23), some 182, some (181, true)⟩, []⟩,
  ⟨⟨.bin .eql 27 .num (.slot 182) (.const (.int .i64 (.ofNat 0))), some 183, some (181, true)⟩, []⟩,
  ⟨⟨.pick (.slot 181) (.slot 183) (.const (.bool false)), some 184, none⟩, []⟩,
  ⟨⟨.mv (.slot 184), some 185, none⟩, []⟩,
  ⟨⟨.call (.const (.func 11 [] [])) [], some 186, some (185, true)⟩, []⟩,
  ⟨⟨.pick (.slot 185) (.slot 186) (.const (.bool false)), some 187, none⟩, []⟩,
  ⟨⟨.mv (.slot 187), some 0, none⟩, []⟩]
def xf3 : XFunc := ⟨(.seq (.region false r3_0)
  (.seq (.region false r3_1)
  (.seq (.region false r3_2)
  (.seq (.region false r3_3)
  (.seq (.region false r3_4)
  (.seq (.region false r3_5)
  (.seq (.region false r3_6)
  (.seq (.region false r3_7)
  (.seq (.region false r3_8)
  (.seq (.region false r3_9)
  (.seq (.region false r3_10)
  (.seq (.region false r3_11)
  (.seq (.region false r3_12)
  (.seq (.region false r3_13)
  (.seq (.region false r3_14)
  (.seq (.region false r3_15)
  (.seq (.region false r3_16)
  .ret))))))))))))))))),
  [.tmp 0]⟩
theorem xf3_ok : compFunc Try.prog Try.f3 = some xf3 := by kernel_rfl
/- threshing/threshinglaw29.began -/
def r4_0 : List XLine := [⟨⟨.mv (.const .nilp), some 2, none⟩, []⟩]
def r4_1 : List XLine := [⟨⟨.mv (.slot 0), some 6, none⟩, []⟩,
  ⟨⟨.build [(.int .i64 (.ofNat 0)), .nils] [(0, 1, (.const (.int .i64 (.ofNat 3)))), (1, 1, (.slot 6))], some 7, none⟩, []⟩,
  ⟨⟨.call (.const (.func 12 [] [])) [(.slot 7)], some 8, none⟩, []⟩,
  ⟨⟨.mv (.slot 8), some 5, none⟩, []⟩,
  ⟨⟨.extract (.slot 5) 0, some 9, none⟩, []⟩,
  ⟨⟨.extract (.slot 5) 1, some 10, none⟩, []⟩,
  ⟨⟨.mv (.slot 9), some 3, none⟩, []⟩,
  ⟨⟨.mv (.slot 10), some 4, none⟩, []⟩]
def r4_2 : List XLine := [⟨⟨.mv (.slot 3), some 11, none⟩, []⟩,
  ⟨⟨.mv (.slot 11), some 2, none⟩, []⟩]
def xf4 : XFunc := ⟨(.seq (.region false r4_0)
  (.seq (.region false r4_1)
  (.seq (.region false r4_2)
  .ret))),
  [.tmp 2]⟩
theorem xf4_ok : compFunc Try.prog Try.f4 = some xf4 := by kernel_rfl
/- threshing/condition.Condition -/
def r5_0 : List XLine := [⟨⟨.mv (.const (.int .i64 (.ofNat 0))), some 6, none⟩, []⟩,
  ⟨⟨.mv (.const (.int .i64 (.ofNat 0))), some 7, none⟩, []⟩]
def r5_1 : List XLine := [⟨⟨.mv (.slot 0), some 21, none⟩, []⟩,
  ⟨⟨.bin .eql 22 .ptr (.slot 21) (.const .nilp), some 22, none⟩, []⟩,
  ⟨⟨.mv (.slot 22), some 20, none⟩, []⟩]
def r5_2 : List XLine := [⟨⟨.mv (.const (.int .i64 (.ofNat 0))), some 6, none⟩, []⟩,
  ⟨⟨.mv (.const (.int .i64 (.ofNat 1))), some 7, none⟩, []⟩]
def r5_3 : List XLine := [⟨⟨.mv (.slot 2), some 24, none⟩, []⟩,
  ⟨⟨.bin .lss 3 .num (.slot 24) (.const (.int .i64 (.ofNat 0))), some 25, none⟩, []⟩,
  ⟨⟨.mv (.slot 25), some 23, none⟩, []⟩]
def r5_4 : List XLine := [⟨⟨.mv (.const (.int .i64 (.ofNat 0))), some 6, none⟩, []⟩,
  ⟨⟨.mv (.const (.int .i64 (.ofNat 2))), some 7, none⟩, []⟩]
def r5_5 : List XLine := [⟨⟨.mv (.slot 0), some 26, none⟩, []⟩,
  ⟨⟨.call (.const (.func 14 [] [])) [(.slot 26)], some 27, none⟩, []⟩,
  ⟨⟨.mv (.slot 1), some 28, none⟩, []⟩,
  ⟨⟨.call (.const (.func 13 [] [])) [(.slot 27), (.slot 28)], some 29, none⟩, []⟩,
  ⟨⟨.mv (.slot 29), some 8, none⟩, []⟩,
  ⟨⟨.mv (.const (.int .i64 (.ofNat 0))), some 9, none⟩, []⟩]
def r5_6 : List XLine := [⟨⟨.mv (.slot 0), some 30, none⟩, []⟩,
  ⟨⟨.call (.const (.func 10 [] [])) [(.slot 30)], some 31, none⟩, []⟩,
  ⟨⟨.len .slice (.slot 31), some 32, none⟩, []⟩,
  ⟨⟨.mv (.const (.int .i64 (.ofNat 0))), some 33, none⟩, []⟩]
def r5_7 : List XLine := [⟨⟨.bin .lss 3 .num (.slot 33) (.slot 32), some 34, none⟩, []⟩]
def r5_8 : List XLine := [⟨⟨.iaddr 3 (.slot 31) (.slot 33), some 35, none⟩, []⟩,
  ⟨⟨.load true 3 (.slot 35), some 36, none⟩, []⟩,
  ⟨⟨.alloc [(.int .i64 (.ofNat 0)), .nils, (.bool false)], some 11, none⟩, []⟩,
  ⟨⟨.store 3 (.slot 11) (.slot 36), none, none⟩, []⟩]
def r5_9 : List XLine := [⟨⟨.mv (.slot 9), some 37, none⟩, []⟩,
  ⟨⟨.mv (.slot 2), some 38, none⟩, []⟩,
  ⟨⟨.bin .eql 3 .num (.slot 37) (.slot 38), some 39, none⟩, []⟩]
def r5_10 : List XLine := [⟨⟨.faddr 1 (.slot 11), some 41, none⟩, []⟩,
  ⟨⟨.load false 1 (.slot 41), some 42, none⟩, []⟩,
  ⟨⟨.call (.const (.func 15 [] [])) [(.slot 42)], some 43, none⟩, []⟩,
  ⟨⟨.mv (.slot 43), some 40, none⟩, []⟩,
  ⟨⟨.extract (.slot 40) 0, some 44, none⟩, []⟩,
  ⟨⟨.extract (.slot 40) 1, some 45, none⟩, []⟩,
  ⟨⟨.mv (.slot 44), some 12, none⟩, []⟩,
  ⟨⟨.mv (.slot 45), some 13, none⟩, []⟩]
def r5_11 : List XLine := [⟨⟨.faddr 2 (.slot 11), some 46, none⟩, []⟩,
  ⟨⟨.load false 1 (.slot 46), some 47, none⟩, []⟩,
  ⟨⟨.mv (.slot 47), some 48, none⟩, []⟩,
  ⟨⟨.mv (.slot 13), some 49, some (48, false)⟩, []⟩,
  ⟨⟨.pick (.slot 48) (.const (.bool true)) (.slot 49), some 50, none⟩, []⟩]
def r5_12 : List XLine := [⟨⟨.mv (.slot 0), some 51, none⟩, []⟩,
  ⟨⟨.mv (.slot 8), some 52, none⟩, []⟩,
  ⟨⟨.mv (.slot 0), some 53, none⟩, []⟩,
  ⟨⟨.mv (.slot 8), some 54, none⟩, []⟩,
  ⟨⟨.faddr 1 (.slot 11), some 56, none⟩, []⟩,
  ⟨⟨.load false 1 (.slot 56), some 57, none⟩, []⟩,
  ⟨⟨.call (.const (.func 17 [] [])) [(.slot 53), (.slot 54)], some 55, none⟩, [⟨.load false 1 (.slot 56), some 57, none⟩]⟩,
  ⟨⟨.call (.const (.func 16 [] [])) [(.slot 51), (.slot 52), (.slot 55), (.slot 57)], some 58, none⟩, []⟩,
  ⟨⟨.alloc [.nilm], some 14, none⟩, [⟨.load false 1 (.slot 56), some 57, none⟩]⟩,
  ⟨⟨.store 1 (.slot 14) (.slot 58), none, none⟩, []⟩]
def r5_13 : List XLine := [⟨⟨.faddr 1 (.slot 11), some 59, none⟩, []⟩,
  ⟨⟨.load false 1 (.slot 59), some 60, none⟩, []⟩,
  ⟨⟨.mkfunc 19 [] [(.slot 14)], some 61, none⟩, []⟩,
  ⟨⟨.call (.const (.func 18 [] [])) [(.slot 60), (.slot 61)], some 62, none⟩, []⟩,
  ⟨⟨.mv (.slot 62), some 15, none⟩, []⟩]
def r5_14 : List XLine := [⟨⟨.mv (.slot 15), some 63, none⟩, []⟩,
  ⟨⟨.bin .lss 3 .num (.slot 63) (.const (.int .i64 (.ofNat 0))), some 64, none⟩, []⟩]
def r5_15 : List XLine := [⟨⟨.faddr 1 (.slot 11), some 65, none⟩, []⟩,
  ⟨⟨.load false 1 (.slot 65), some 66, none⟩, []⟩,
  ⟨⟨.mv (.slot 15), some 67, none⟩, []⟩,
  ⟨⟨.iaddr 1 (.slot 66) (.slot 67), some 68, none⟩, []⟩,
  ⟨⟨.load false 1 (.slot 68), some 69, none⟩, []⟩,
  ⟨⟨.mv (.slot 69), some 16, none⟩, []⟩]
def r5_16 : List XLine := [⟨⟨.load false 1 (.slot 14), some 70, none⟩, []⟩,
  ⟨⟨.mv (.slot 16), some 71, none⟩, []⟩,
  ⟨⟨.delete .i32 (.slot 70) (.slot 71), none, none⟩, []⟩]
def r5_17 : List XLine := [⟨⟨.load false 1 (.slot 14), some 73, none⟩, []⟩,
  ⟨⟨.call (.const (.func 21 [] [])) [(.slot 73)], some 74, none⟩, []⟩,
  ⟨⟨.call (.const (.func 20 [] [])) [(.slot 74)], some 75, none⟩, []⟩,
  ⟨⟨.call (.const (.func 15 [] [])) [(.slot 75)], some 76, none⟩, []⟩,
  ⟨⟨.mv (.slot 76), some 72, none⟩, []⟩,
  ⟨⟨.extract (.slot 72) 0, some 77, none⟩, []⟩,
  ⟨⟨.extract (.slot 72) 1, some 78, none⟩, []⟩,
  ⟨⟨.mv (.slot 77), some 17, none⟩, []⟩,
  ⟨⟨.mv (.slot 78), some 18, none⟩, []⟩]
def r5_18 : List XLine := [⟨⟨.mv (.slot 0), some 79, none⟩, []⟩,
  ⟨⟨.faddr 0 (.slot 11), some 80, none⟩, []⟩,
  ⟨⟨.load false 1 (.slot 80), some 81, none⟩, []⟩,
  ⟨⟨.mv (.slot 16), some 82, none⟩, []⟩,
  ⟨⟨.mv (.slot 17), some 84, none⟩, []⟩,
  ⟨⟨.bslice 1 [(.int .i32 (.ofNat 0))] [(0, 1, (.slot 82))] 1, some 83, none⟩, [⟨.load false 1 (.slot 80), some 81, none⟩]⟩,
  ⟨⟨.bslice 1 [.nils, .nils] [(0, 1, (.slot 83)), (1, 1, (.slot 84))] 2, some 85, none⟩, [⟨.load false 1 (.slot 80), some 81, none⟩]⟩,
  ⟨⟨.call (.const (.func 23 [] [])) [(.slot 85)], some 86, none⟩, [⟨.load false 1 (.slot 80), some 81, none⟩]⟩,
  ⟨⟨.call (.const (.func 22 [] [])) [(.slot 79), (.slot 81), (.slot 86)], some 87, none⟩, []⟩,
  ⟨⟨.mv (.slot 87), some 19, none⟩, []⟩]
def r5_19 : List XLine := [⟨⟨.mv (.slot 19), some 88, none⟩, []⟩,
  ⟨⟨.bin .neq 27 .num (.slot 88) (.const (.int .i64 (.ofNat 0))), some 89, none⟩, []⟩]
def r5_20 : List XLine := [⟨⟨.mv (.slot 9), some 90, none⟩, []⟩,
  ⟨⟨.mv (.slot 19), some 91, none⟩, []⟩,
  ⟨⟨.mv (.slot 90), some 6, none⟩, []⟩,
  ⟨⟨.mv (.slot 91), some 7, none⟩, []⟩]
def r5_21 : List XLine := [⟨⟨.mv (.slot 9), some 92, none⟩, []⟩,
  ⟨⟨.bin .add 3 .num (.slot 92) (.const (.int .i64 (.ofNat 1))), some 93, none⟩, []⟩,
  ⟨⟨.mv (.slot 93), some 9, none⟩, []⟩]
def r5_22 : List XLine := [⟨⟨.bin .add 3 .num (.slot 33) (.const (.int .i64 (.ofNat 1))), some 94, none⟩, []⟩,
  ⟨⟨.mv (.slot 94), some 33, none⟩, []⟩]
def r5_23 : List XLine := [⟨⟨.mv (.slot 9), some 95, none⟩, []⟩,
  ⟨⟨.mv (.slot 95), some 6, none⟩, []⟩,
  ⟨⟨.mv (.const (.int .i64 (.ofNat 0))), some 7, none⟩, []⟩]
def xf5 : XFunc := ⟨(.seq (.region false r5_0)
  (.seq (.block 0 (.seq (.region false r5_1)
  (.cond (.slot 20)
  (.seq (.region false r5_2)
  .ret)
  (.seq (.region false r5_3)
  (.cond (.slot 23)
  (.seq (.region false r5_4)
  .ret)
  .skip)))))
  (.seq (.region false r5_5)
  (.seq (.seq (.region false r5_6)
  (.block 1 (.loop (.seq (.region false r5_7)
  (.seq (.cond (.slot 34)
  .skip
  (.exit 1))
  (.seq (.block 2 (.seq (.region false r5_8)
  (.seq (.seq (.region false r5_9)
  (.cond (.slot 39)
  (.exit 1)
  .skip))
  (.seq (.seq (.region false r5_10)
  (.seq (.region false r5_11)
  (.cond (.slot 50)
  (.exit 2)
  .skip)))
  (.seq (.region true r5_12)
  (.seq (.region false r5_13)
  (.seq (.seq (.region false r5_14)
  (.cond (.slot 64)
  (.exit 2)
  .skip))
  (.seq (.region false r5_15)
  (.seq (.region false r5_16)
  (.seq (.region false r5_17)
  (.seq (.seq (.region true r5_18)
  (.seq (.region false r5_19)
  (.cond (.slot 89)
  (.seq (.region false r5_20)
  .ret)
  .skip)))
  (.region false r5_21))))))))))))
  (.region false r5_22)))))))
  (.seq (.region false r5_23)
  .ret))))),
  [.tmp 6, .tmp 7]⟩
theorem xf5_ok : compFunc Try.prog Try.f5 = some xf5 := by kernel_rfl
/- threshing/threshinglaw29.yes -/
def r6_0 : List XLine := [⟨⟨.mv (.const .nils), some 0, none⟩, []⟩]
def r6_1 : List XLine := [⟨⟨.bslice 1 [(.bool false), (.bool false), (.bool false)] [(0, 1, (.const (.bool true))), (1, 1, (.const (.bool true))), (2, 1, (.const (.bool true)))] 3, some 1, none⟩, []⟩,
  ⟨⟨.mv (.slot 1), some 0, none⟩, []⟩]
def xf6 : XFunc := ⟨(.seq (.region false r6_0)
  (.seq (.region false r6_1)
  .ret)),
  [.tmp 0]⟩
theorem xf6_ok : compFunc Try.prog Try.f6 = some xf6 := by kernel_rfl
/- (*threshing/base.Base).Stack -/
def r7_0 : List XLine := [⟨⟨.mv (.const .nils), some 2, none⟩, []⟩]
def r7_1 : List XLine := [⟨⟨.mv (.slot 0), some 5, none⟩, []⟩,
  ⟨⟨.bin .eql 22 .ptr (.slot 5) (.const .nilp), some 6, none⟩, []⟩]
def r7_2 : List XLine := [⟨⟨.mv (.const .nils), some 2, none⟩, []⟩]
def r7_3 : List XLine := [⟨⟨.mv (.slot 0), some 7, none⟩, []⟩,
  ⟨⟨.nilCheck (.slot 7), some 8, none⟩, []⟩,
  ⟨⟨.faddr 6 (.slot 8), some 9, none⟩, []⟩,
  ⟨⟨.load false 1 (.slot 9), some 10, none⟩, []⟩,
  ⟨⟨.call (.const (.func 24 [] [])) [(.slot 10)], some 11, none⟩, []⟩,
  ⟨⟨.mv (.slot 11), some 3, none⟩, []⟩]
def r7_4 : List XLine := [⟨⟨.mv (.slot 3), some 12, none⟩, []⟩,
  ⟨⟨.len .slice (.slot 12), some 13, none⟩, []⟩,
  ⟨⟨.mv (.const (.int .i64 (.ofNat 0))), some 14, none⟩, []⟩]
def r7_5 : List XLine := [⟨⟨.bin .lss 3 .num (.slot 14) (.slot 13), some 15, none⟩, []⟩]
def r7_6 : List XLine := [⟨⟨.mv (.slot 14), some 16, none⟩, []⟩,
  ⟨⟨.mv (.slot 16), some 4, none⟩, []⟩]
def r7_7 : List XLine := [⟨⟨.mv (.slot 3), some 17, none⟩, []⟩,
  ⟨⟨.mv (.slot 4), some 18, none⟩, []⟩,
  ⟨⟨.mv (.slot 3), some 19, none⟩, []⟩,
  ⟨⟨.mv (.slot 4), some 20, none⟩, []⟩,
  ⟨⟨.mv (.slot 3), some 21, none⟩, []⟩,
  ⟨⟨.mv (.slot 4), some 22, none⟩, []⟩,
  ⟨⟨.iaddr 2 (.slot 21) (.slot 22), some 23, none⟩, []⟩,
  ⟨⟨.faddr 0 (.slot 23), some 24, none⟩, []⟩,
  ⟨⟨.load false 1 (.slot 24), some 25, none⟩, []⟩,
  ⟨⟨.mv (.slot 3), some 27, none⟩, []⟩,
  ⟨⟨.mv (.slot 4), some 28, none⟩, []⟩,
  ⟨⟨.iaddr 2 (.slot 27) (.slot 28), some 29, none⟩, []⟩,
  ⟨⟨.faddr 1 (.slot 29), some 30, none⟩, []⟩,
  ⟨⟨.load false 1 (.slot 30), some 31, none⟩, []⟩,
  ⟨⟨.call (.const (.func 25 [] [])) [(.slot 25)], some 26, none⟩, [⟨.load false 1 (.slot 30), some 31, none⟩]⟩,
  ⟨⟨.call (.const (.func 25 [] [])) [(.slot 31)], some 32, none⟩, []⟩,
  ⟨⟨.iaddr 2 (.slot 17) (.slot 18), some 33, none⟩, []⟩,
  ⟨⟨.faddr 0 (.slot 33), some 34, none⟩, []⟩,
  ⟨⟨.store 1 (.slot 34) (.slot 26), none, none⟩, []⟩,
  ⟨⟨.iaddr 2 (.slot 19) (.slot 20), some 35, none⟩, []⟩,
  ⟨⟨.faddr 1 (.slot 35), some 36, none⟩, []⟩,
  ⟨⟨.store 1 (.slot 36) (.slot 32), none, none⟩, []⟩]
def r7_8 : List XLine := [⟨⟨.bin .add 3 .num (.slot 14) (.const (.int .i64 (.ofNat 1))), some 37, none⟩, []⟩,
  ⟨⟨.mv (.slot 37), some 14, none⟩, []⟩]
def r7_9 : List XLine := [⟨⟨.mv (.slot 3), some 38, none⟩, []⟩,
  ⟨⟨.mv (.slot 38), some 2, none⟩, []⟩]
def xf7 : XFunc := ⟨(.seq (.region false r7_0)
  (.seq (.seq (.region false r7_1)
  (.cond (.slot 6)
  (.seq (.region false r7_2)
  .ret)
  .skip))
  (.seq (.region false r7_3)
  (.seq (.seq (.region false r7_4)
  (.block 0 (.loop (.seq (.region false r7_5)
  (.seq (.cond (.slot 15)
  .skip
  (.exit 0))
  (.seq (.block 1 (.seq (.region false r7_6)
  (.region true r7_7)))
  (.region false r7_8)))))))
  (.seq (.region false r7_9)
  .ret))))),
  [.tmp 2]⟩
theorem xf7_ok : compFunc Try.prog Try.f7 = some xf7 := by kernel_rfl
/- threshing/threshingkit.SameClause -/
def r8_0 : List XLine := [⟨⟨.mv (.const (.bool false)), some 4, none⟩, []⟩]
def r8_1 : List XLine := [⟨⟨.mv (.slot 0), some 6, none⟩, []⟩,
  ⟨⟨.len .slice (.slot 6), some 7, none⟩, []⟩,
  ⟨⟨.mv (.slot 1), some 8, none⟩, []⟩,
  ⟨⟨.len .slice (.slot 8), some 9, none⟩, []⟩,
  ⟨⟨.bin .neq 3 .num (.slot 7) (.slot 9), some 10, none⟩, []⟩]
def r8_2 : List XLine := [⟨⟨.mv (.const (.bool false)), some 4, none⟩, []⟩]
def r8_3 : List XLine := [⟨⟨.mv (.const (.int .i64 (.ofNat 0))), some 5, none⟩, []⟩]
def r8_4 : List XLine := [⟨⟨.mv (.slot 5), some 11, none⟩, []⟩,
  ⟨⟨.mv (.slot 0), some 12, none⟩, []⟩,
  ⟨⟨.len .slice (.slot 12), some 13, none⟩, []⟩,
  ⟨⟨.bin .lss 3 .num (.slot 11) (.slot 13), some 14, none⟩, []⟩]
def r8_5 : List XLine := [⟨⟨.mv (.slot 0), some 17, none⟩, []⟩,
  ⟨⟨.mv (.slot 5), some 18, none⟩, []⟩,
  ⟨⟨.iaddr 1 (.slot 17) (.slot 18), some 19, none⟩, []⟩,
  ⟨⟨.load false 1 (.slot 19), some 20, none⟩, []⟩,
  ⟨⟨.mv (.slot 1), some 21, none⟩, []⟩,
  ⟨⟨.mv (.slot 5), some 22, none⟩, []⟩,
  ⟨⟨.iaddr 1 (.slot 21) (.slot 22), some 23, none⟩, []⟩,
  ⟨⟨.load false 1 (.slot 23), some 24, none⟩, []⟩,
  ⟨⟨.bin .neq 24 .num (.slot 20) (.slot 24), some 25, none⟩, []⟩]
def r8_6 : List XLine := [⟨⟨.mv (.const (.bool false)), some 4, none⟩, []⟩]
def r8_7 : List XLine := [⟨⟨.mv (.slot 5), some 15, none⟩, []⟩,
  ⟨⟨.bin .add 3 .num (.slot 15) (.const (.int .i64 (.ofNat 1))), some 16, none⟩, []⟩,
  ⟨⟨.mv (.slot 16), some 5, none⟩, []⟩]
def r8_8 : List XLine := [⟨⟨.mv (.const (.bool true)), some 4, none⟩, []⟩]
def xf8 : XFunc := ⟨(.seq (.region false r8_0)
  (.seq (.seq (.region false r8_1)
  (.cond (.slot 10)
  (.seq (.region false r8_2)
  .ret)
  .skip))
  (.seq (.seq (.region false r8_3)
  (.block 0 (.loop (.seq (.seq (.region false r8_4)
  (.cond (.slot 14)
  .skip
  (.exit 0)))
  (.seq (.block 1 (.seq (.region true r8_5)
  (.cond (.slot 25)
  (.seq (.region false r8_6)
  .ret)
  .skip)))
  (.region false r8_7))))))
  (.seq (.region false r8_8)
  .ret)))),
  [.tmp 4]⟩
theorem xf8_ok : compFunc Try.prog Try.f8 = some xf8 := by kernel_rfl
/- (*threshing/base.Base).Add -/
def r9_0 : List XLine := [⟨⟨.mv (.const (.int .i64 (.ofNat 0))), some 8, none⟩, []⟩,
  ⟨⟨.mv (.const (.int .i64 (.ofNat 0))), some 9, none⟩, []⟩]
def r9_1 : List XLine := [⟨⟨.mv (.slot 0), some 12, none⟩, []⟩,
  ⟨⟨.bin .eql 22 .ptr (.slot 12) (.const .nilp), some 13, none⟩, []⟩,
  ⟨⟨.mv (.slot 13), some 11, none⟩, []⟩]
def r9_2 : List XLine := [⟨⟨.mv (.const (.int .i64 (.ofNat 0))), some 8, none⟩, []⟩,
  ⟨⟨.mv (.const (.int .i64 (.ofNat 1))), some 9, none⟩, []⟩]
def r9_3 : List XLine := [⟨⟨.mv (.slot 0), some 15, none⟩, []⟩,
  ⟨⟨.call (.const (.func 26 [] [])) [(.slot 15)], some 16, none⟩, []⟩,
  ⟨⟨.mv (.slot 16), some 14, none⟩, []⟩]
def r9_4 : List XLine := [⟨⟨.mv (.const (.int .i64 (.ofNat 0))), some 8, none⟩, []⟩,
  ⟨⟨.mv (.const (.int .i64 (.ofNat 3))), some 9, none⟩, []⟩]
def r9_5 : List XLine := [⟨⟨.mv (.slot 0), some 18, none⟩, []⟩,
  ⟨⟨.mv (.slot 1), some 19, none⟩, []⟩,
  ⟨⟨.call (.const (.func 27 [] [])) [(.slot 18), (.slot 19)], some 20, none⟩, []⟩,
  ⟨⟨.un .not (.slot 20), some 21, none⟩, []⟩,
  ⟨⟨.mv (.slot 21), some 17, none⟩, []⟩]
def r9_6 : List XLine := [⟨⟨.mv (.const (.int .i64 (.ofNat 0))), some 8, none⟩, []⟩,
  ⟨⟨.mv (.const (.int .i64 (.ofNat 4))), some 9, none⟩, []⟩]
def r9_7 : List XLine := [⟨⟨.mv (.slot 0), some 22, none⟩, []⟩,
  ⟨⟨.mv (.slot 1), some 23, none⟩, []⟩,
  ⟨⟨.mv (.slot 2), some 24, none⟩, []⟩,
  ⟨⟨.call (.const (.func 28 [] [])) [(.slot 22), (.slot 23), (.slot 24)], some 25, none⟩, []⟩,
  ⟨⟨.mv (.slot 25), some 10, none⟩, []⟩]
def r9_8 : List XLine := [⟨⟨.mv (.slot 10), some 26, none⟩, []⟩,
  ⟨⟨.bin .neq 27 .num (.slot 26) (.const (.int .i64 (.ofNat 0))), some 27, none⟩, []⟩]
def r9_9 : List XLine := [⟨⟨.mv (.slot 10), some 28, none⟩, []⟩,
  ⟨⟨.mv (.const (.int .i64 (.ofNat 0))), some 8, none⟩, []⟩,
  ⟨⟨.mv (.slot 28), some 9, none⟩, []⟩]
def r9_10 : List XLine := [⟨⟨.mv (.slot 0), some 29, none⟩, []⟩,
  ⟨⟨.mv (.slot 1), some 30, none⟩, []⟩,
  ⟨⟨.mv (.slot 3), some 31, none⟩, []⟩,
  ⟨⟨.call (.const (.func 29 [] [])) [(.slot 29), (.slot 30), (.slot 31)], some 32, none⟩, []⟩]
def r9_11 : List XLine := [⟨⟨.mv (.slot 0), some 33, none⟩, []⟩,
  ⟨⟨.mv (.slot 0), some 34, none⟩, []⟩,
  ⟨⟨.nilCheck (.slot 34), some 35, none⟩, []⟩,
  ⟨⟨.faddr 5 (.slot 35), some 36, none⟩, []⟩,
  ⟨⟨.load false 1 (.slot 36), some 37, none⟩, []⟩,
  ⟨⟨.mv (.slot 0), some 38, none⟩, []⟩,
  ⟨⟨.nilCheck (.slot 38), some 39, none⟩, []⟩,
  ⟨⟨.faddr 4 (.slot 39), some 40, none⟩, []⟩,
  ⟨⟨.load false 1 (.slot 40), some 41, none⟩, []⟩,
  ⟨⟨.mv (.slot 1), some 42, none⟩, []⟩,
  ⟨⟨.mv (.slot 2), some 44, none⟩, []⟩,
  ⟨⟨.call (.const (.func 25 [] [])) [(.slot 42)], some 43, none⟩, [⟨.load false 1 (.slot 36), some 37, none⟩, ⟨.load false 1 (.slot 40), some 41, none⟩]⟩,
  ⟨⟨.call (.const (.func 30 [] [])) [(.slot 44)], some 45, none⟩, [⟨.load false 1 (.slot 36), some 37, none⟩, ⟨.load false 1 (.slot 40), some 41, none⟩]⟩,
  ⟨⟨.build [(.int .u8 (.ofNat 0)), (.int .i64 (.ofNat 0)), .nils, .nils] [(0, 1, (.const (.int .u8 (.ofNat 1)))), (1, 1, (.slot 41)), (2, 1, (.slot 43)), (3, 1, (.slot 45))], some 46, none⟩, []⟩,
  ⟨⟨.bslice 4 [(.int .u8 (.ofNat 0)), (.int .i64 (.ofNat 0)), .nils, .nils] [(0, 4, (.slot 46))] 1, some 47, none⟩, [⟨.load false 1 (.slot 36), some 37, none⟩]⟩,
  ⟨⟨.append 4 64 (.slot 37) (.slot 47), some 48, none⟩, []⟩,
  ⟨⟨.nilCheck (.slot 33), some 49, none⟩, []⟩,
  ⟨⟨.faddr 5 (.slot 49), some 50, none⟩, []⟩,
  ⟨⟨.store 1 (.slot 50) (.slot 48), none, none⟩, []⟩]
def r9_12 : List XLine := [⟨⟨.mv (.slot 0), some 51, none⟩, []⟩,
  ⟨⟨.mv (.slot 0), some 52, none⟩, []⟩,
  ⟨⟨.nilCheck (.slot 52), some 53, none⟩, []⟩,
  ⟨⟨.faddr 4 (.slot 53), some 54, none⟩, []⟩,
  ⟨⟨.load false 1 (.slot 54), some 55, none⟩, []⟩,
  ⟨⟨.mv (.slot 3), some 56, none⟩, []⟩,
  ⟨⟨.mv (.slot 1), some 57, none⟩, []⟩,
  ⟨⟨.mv (.slot 2), some 59, none⟩, []⟩,
  ⟨⟨.call (.const (.func 25 [] [])) [(.slot 57)], some 58, none⟩, [⟨.load false 1 (.slot 54), some 55, none⟩]⟩,
  ⟨⟨.call (.const (.func 30 [] [])) [(.slot 59)], some 60, none⟩, [⟨.load false 1 (.slot 54), some 55, none⟩]⟩,
  ⟨⟨.build [(.int .u8 (.ofNat 0)), (.int .i64 (.ofNat 0)), (.int .i64 (.ofNat 0)), (.bool false), .nils, .nils] [(0, 1, (.const (.int .u8 (.ofNat 1)))), (1, 1, (.slot 55)), (3, 1, (.slot 56)), (4, 1, (.slot 58)), (5, 1, (.slot 60))], some 61, none⟩, []⟩,
  ⟨⟨.call (.const (.func 31 [] [])) [(.slot 51), (.slot 61)], some 62, none⟩, []⟩]
def r9_13 : List XLine := [⟨⟨.mv (.slot 0), some 63, none⟩, []⟩,
  ⟨⟨.nilCheck (.slot 63), some 64, none⟩, []⟩,
  ⟨⟨.faddr 4 (.slot 64), some 65, none⟩, []⟩,
  ⟨⟨.load false 1 (.slot 65), some 66, none⟩, []⟩,
  ⟨⟨.mv (.slot 66), some 8, none⟩, []⟩,
  ⟨⟨.mv (.const (.int .i64 (.ofNat 0))), some 9, none⟩, []⟩]
def xf9 : XFunc := ⟨(.seq (.region false r9_0)
  (.seq (.block 0 (.seq (.region false r9_1)
  (.cond (.slot 11)
  (.seq (.region false r9_2)
  .ret)
  (.seq (.region false r9_3)
  (.cond (.slot 14)
  (.seq (.region false r9_4)
  .ret)
  (.seq (.region false r9_5)
  (.cond (.slot 17)
  (.seq (.region false r9_6)
  .ret)
  .skip)))))))
  (.seq (.seq (.region false r9_7)
  (.seq (.region false r9_8)
  (.cond (.slot 27)
  (.seq (.region false r9_9)
  .ret)
  .skip)))
  (.seq (.region false r9_10)
  (.seq (.region true r9_11)
  (.seq (.region true r9_12)
  (.seq (.region false r9_13)
  .ret))))))),
  [.tmp 8, .tmp 9]⟩
theorem xf9_ok : compFunc Try.prog Try.f9 = some xf9 := by kernel_rfl
/- (*threshing/base.Base).Entries -/
def r10_0 : List XLine := [⟨⟨.mv (.const .nils), some 2, none⟩, []⟩]
def r10_1 : List XLine := [⟨⟨.mv (.slot 0), some 6, none⟩, []⟩,
  ⟨⟨.bin .eql 22 .ptr (.slot 6) (.const .nilp), some 7, none⟩, []⟩]
def r10_2 : List XLine := [⟨⟨.mv (.const .nils), some 2, none⟩, []⟩]
def r10_3 : List XLine := [⟨⟨.mv (.const .nils), some 3, none⟩, []⟩]
def r10_4 : List XLine := [⟨⟨.mv (.slot 0), some 8, none⟩, []⟩,
  ⟨⟨.nilCheck (.slot 8), some 9, none⟩, []⟩,
  ⟨⟨.faddr 1 (.slot 9), some 10, none⟩, []⟩,
  ⟨⟨.load false 1 (.slot 10), some 11, none⟩, []⟩,
  ⟨⟨.call (.const (.func 33 [] [])) [(.slot 11)], some 12, none⟩, []⟩,
  ⟨⟨.call (.const (.func 32 [] [])) [(.slot 12)], some 13, none⟩, []⟩,
  ⟨⟨.len .slice (.slot 13), some 14, none⟩, []⟩,
  ⟨⟨.mv (.const (.int .i64 (.ofNat 0))), some 15, none⟩, []⟩]
def r10_5 : List XLine := [⟨⟨.bin .lss 3 .num (.slot 15) (.slot 14), some 16, none⟩, []⟩]
def r10_6 : List XLine := [⟨⟨.iaddr 1 (.slot 13) (.slot 15), some 17, none⟩, []⟩,
  ⟨⟨.load false 1 (.slot 17), some 18, none⟩, []⟩,
  ⟨⟨.mv (.slot 18), some 5, none⟩, []⟩]
def r10_7 : List XLine := [⟨⟨.mv (.slot 3), some 19, none⟩, []⟩,
  ⟨⟨.mv (.slot 0), some 20, none⟩, []⟩,
  ⟨⟨.nilCheck (.slot 20), some 21, none⟩, []⟩,
  ⟨⟨.faddr 1 (.slot 21), some 22, none⟩, []⟩,
  ⟨⟨.load false 1 (.slot 22), some 23, none⟩, []⟩,
  ⟨⟨.mv (.slot 5), some 24, none⟩, []⟩,
  ⟨⟨.lookup .i64 (.agg [(.int .i64 (.ofNat 0)), .nils, (.bool false)]) (.slot 23) (.slot 24) false, some 25, none⟩, []⟩,
  ⟨⟨.call (.const (.func 34 [] [])) [(.slot 25)], some 26, none⟩, []⟩,
  ⟨⟨.bslice 3 [(.int .i64 (.ofNat 0)), .nils, (.bool false)] [(0, 3, (.slot 26))] 1, some 27, none⟩, []⟩,
  ⟨⟨.append 3 40 (.slot 19) (.slot 27), some 28, none⟩, []⟩,
  ⟨⟨.mv (.slot 28), some 3, none⟩, []⟩]
def r10_8 : List XLine := [⟨⟨.bin .add 3 .num (.slot 15) (.const (.int .i64 (.ofNat 1))), some 29, none⟩, []⟩,
  ⟨⟨.mv (.slot 29), some 15, none⟩, []⟩]
def r10_9 : List XLine := [⟨⟨.mv (.slot 3), some 30, none⟩, []⟩,
  ⟨⟨.mv (.slot 30), some 2, none⟩, []⟩]
def xf10 : XFunc := ⟨(.seq (.region false r10_0)
  (.seq (.seq (.region false r10_1)
  (.cond (.slot 7)
  (.seq (.region false r10_2)
  .ret)
  .skip))
  (.seq (.region false r10_3)
  (.seq (.seq (.region false r10_4)
  (.block 0 (.loop (.seq (.region false r10_5)
  (.seq (.cond (.slot 16)
  .skip
  (.exit 0))
  (.seq (.block 1 (.seq (.region false r10_6)
  (.region false r10_7)))
  (.region false r10_8)))))))
  (.seq (.region false r10_9)
  .ret))))),
  [.tmp 2]⟩
theorem xf10_ok : compFunc Try.prog Try.f10 = some xf10 := by kernel_rfl
/- threshing/threshinglaw29.works -/
def r11_0 : List XLine := [⟨⟨.mv (.const (.bool false)), some 0, none⟩, []⟩]
def r11_1 : List XLine := [⟨⟨.bslice 1 [(.int .i32 (.ofNat 0)), (.int .i32 (.ofNat 0))] [(0, 1, (.const (.int .i32 (.ofNat 1)))), (1, 1, (.const (.int .i32 (.ofNat 2))))] 2, some 5, none⟩, []⟩,
  ⟨⟨.bslice 1 [(.int .i32 (.ofNat 0)), (.int .i32 (.ofNat 0))] [(0, 1, (.const (.int .i32 (.negSucc 0)))), (1, 1, (.const (.int .i32 (.ofNat 3))))] 2, some 6, none⟩, []⟩,
  ⟨⟨.bslice 1 [.nils, .nils] [(0, 1, (.slot 5)), (1, 1, (.slot 6))] 2, some 7, none⟩, []⟩,
  ⟨⟨.call (.const (.func 4 [] [])) [(.slot 7)], some 8, none⟩, []⟩,
  ⟨⟨.mv (.slot 8), some 1, none⟩, []⟩]
def r11_2 : List XLine := [⟨⟨.mv (.slot 1), some 10, none⟩, []⟩,
  ⟨⟨.call (.const (.func 6 [] [])) [], some 11, none⟩, []⟩,
  ⟨⟨.call (.const (.func 5 [] [])) [(.slot 10), (.slot 11), (.const (.int .i64 (.ofNat 9)))], some 12, none⟩, []⟩,
  ⟨⟨.mv (.slot 12), some 9, none⟩, []⟩,
  ⟨⟨.extract (.slot 9) 0, some 13, none⟩, []⟩,
  ⟨⟨.extract (.slot 9) 1, some 14, none⟩, []⟩,
  ⟨⟨.mv (.slot 13), some 2, none⟩, []⟩,
  ⟨⟨.mv (.slot 14), some 3, none⟩, []⟩]
def r11_3 : List XLine := [⟨⟨.mv (.slot 1), some 15, none⟩, []⟩,
  ⟨⟨.call (.const (.func 7 [] [])) [(.slot 15)], some 16, none⟩, []⟩,
  ⟨⟨.mv (.slot 16), some 4, none⟩, []⟩]
def r11_4 : List XLine := [⟨⟨.mv (.slot 2), some 17, none⟩, []⟩,
  ⟨⟨.bin .eql 3 .num (.slot 17) (.const (.int .i64 (.ofNat 2))), some 18, none⟩, []⟩,
  ⟨⟨.mv (.slot 18), some 19, none⟩, []⟩,
  ⟨⟨.mv (.slot 3), some 20, some (19, true)⟩, []⟩,
  ⟨⟨.bin .eql 27 .num (.slot 20) (.const (.int .i64 (.ofNat 0))), some 21, some (19, true)⟩, []⟩,
  ⟨⟨.pick (.slot 19) (.slot 21) (.const (.bool false)), some 22, none⟩, []⟩,
  ⟨⟨.mv (.slot 22), some 23, none⟩, []⟩,
  ⟨⟨.mv (.slot 1), some 24, some (23, true)⟩, []⟩,
  ⟨⟨.call (.const (.func 10 [] [])) [(.slot 24)], some 25, some (23, true)⟩, []⟩,
  ⟨⟨.len .slice (.slot 25), some 26, some (23, true)⟩, []⟩,
  ⟨⟨.bin .eql 3 .num (.slot 26) (.const (.int .i64 (.ofNat 0))), some 27, some (23, true)⟩, []⟩,
  ⟨⟨.pick (.slot 23) (.slot 27) (.const (.bool false)), some 28, none⟩, []⟩,
  ⟨⟨.mv (.slot 28), some 29, none⟩, []⟩,
  ⟨⟨.mv (.slot 4), some 30, some (29, true)⟩, []⟩,
  ⟨⟨.len .slice (.slot 30), some 31, some (29, true)⟩, []⟩,
  ⟨⟨.bin .eql 3 .num (.slot 31) (.const (.int .i64 (.ofNat 2))), some 32, some (29, true)⟩, []⟩,
  ⟨⟨.pick (.slot 29) (.slot 32) (.const (.bool false)), some 33, none⟩, []⟩,
  ⟨⟨.mv (.slot 33), some 34, none⟩, []⟩,
  ⟨⟨.mv (.slot 4), some 35, some (34, true)⟩, []⟩,
  ⟨⟨.iaddr 2 (.slot 35) (.const (.int .i64 (.ofNat 0))), some 36, some (34, true)⟩, []⟩,
  ⟨⟨.faddr 0 (.slot 36), some 37, some (34, true)⟩, []⟩,
  ⟨⟨.load false 1 (.slot 37), some 38, some (34, true)⟩, []⟩,
  ⟨⟨.bslice 1 [(.int .i32 (.ofNat 0)), (.int .i32 (.ofNat 0)), (.int .i32 (.ofNat 0))] [(0, 1, (.const (.int .i32 (.ofNat 1)))), (1, 1, (.const (.int .i32 (.ofNat 2)))), (2, 1, (.const (.int .i32 (.ofNat 3))))] 3, some 39, some (34, true)⟩, []⟩,
  ⟨⟨.call (.const (.func 8 [] [])) [(.slot 38), (.slot 39)], some 40, some (34, true)⟩, []⟩,
  ⟨⟨.pick (.slot 34) (.slot 40) (.const (.bool false)), some 41, none⟩, []⟩,
  ⟨⟨.mv (.slot 41), some 42, none⟩, []⟩,
  ⟨⟨.mv (.slot 4), some 43, some (42, true)⟩, []⟩,
  ⟨⟨.iaddr 2 (.slot 43) (.const (.int .i64 (.ofNat 1))), some 44, some (42, true)⟩, []⟩,
  ⟨⟨.faddr 0 (.slot 44), some 45, some (42, true)⟩, []⟩,
  ⟨⟨.load false 1 (.slot 45), some 46, some (42, true)⟩, []⟩,
  ⟨⟨.bslice 1 [(.int .i32 (.ofNat 0)), (.int .i32 (.ofNat 0)), (.int .i32 (.ofNat 0))] [(0, 1, (.const (.int .i32 (.ofNat 3)))), (1, 1, (.const (.int .i32 (.ofNat 1)))), (2, 1, (.const (.int .i32 (.ofNat 2))))] 3, some 47, some (42, true)⟩, []⟩,
  ⟨⟨.call (.const (.func 8 [] [])) [(.slot 46), (.slot 47)], some 48, some (42, true)⟩, []⟩,
  ⟨⟨.pick (.slot 42) (.slot 48) (.const (.bool false)), some 49, none⟩, []⟩,
  ⟨⟨.mv (.slot 49), some 0, none⟩, []⟩]
def xf11 : XFunc := ⟨(.seq (.region false r11_0)
  (.seq (.region false r11_1)
  (.seq (.region false r11_2)
  (.seq (.region false r11_3)
  (.seq (.region false r11_4)
  .ret))))),
  [.tmp 0]⟩
theorem xf11_ok : compFunc Try.prog Try.f11 = some xf11 := by kernel_rfl
/- threshing/base.New -/
def r12_0 : List XLine := [⟨⟨.box (.slot 0), some 1, none⟩, []⟩,
  ⟨⟨.mv (.const .nilp), some 2, none⟩, []⟩,
  ⟨⟨.mv (.const (.int .i64 (.ofNat 0))), some 3, none⟩, []⟩]
def r12_1 : List XLine := [⟨⟨.load true 2 (.slot 1), some 8, none⟩, []⟩,
  ⟨⟨.call (.const (.func 35 [] [])) [(.slot 8)], some 9, none⟩, []⟩,
  ⟨⟨.mv (.slot 9), some 4, none⟩, []⟩]
def r12_2 : List XLine := [⟨⟨.mv (.slot 4), some 10, none⟩, []⟩,
  ⟨⟨.bin .neq 27 .num (.slot 10) (.const (.int .i64 (.ofNat 0))), some 11, none⟩, []⟩]
def r12_3 : List XLine := [⟨⟨.mv (.slot 4), some 12, none⟩, []⟩,
  ⟨⟨.mv (.const .nilp), some 2, none⟩, []⟩,
  ⟨⟨.mv (.slot 12), some 3, none⟩, []⟩]
def r12_4 : List XLine := [⟨⟨.faddr 0 (.slot 1), some 13, none⟩, []⟩,
  ⟨⟨.load false 1 (.slot 13), some 14, none⟩, []⟩,
  ⟨⟨.mkmap .i64, some 15, none⟩, []⟩,
  ⟨⟨.mkmap .i32, some 16, none⟩, []⟩,
  ⟨⟨.mkmap .i64, some 17, none⟩, []⟩,
  ⟨⟨.build [(.int .i64 (.ofNat 0)), .nilm, .nilm, .nilm, (.int .i64 (.ofNat 0)), .nils, .nils, .nils] [(0, 1, (.slot 14)), (1, 1, (.slot 15)), (2, 1, (.slot 16)), (3, 1, (.slot 17))], some 18, none⟩, []⟩,
  ⟨⟨.box (.slot 18), some 19, none⟩, []⟩,
  ⟨⟨.mv (.slot 19), some 5, none⟩, []⟩]
def r12_5 : List XLine := [⟨⟨.faddr 1 (.slot 1), some 20, none⟩, []⟩,
  ⟨⟨.load false 1 (.slot 20), some 21, none⟩, []⟩,
  ⟨⟨.len .slice (.slot 21), some 22, none⟩, []⟩,
  ⟨⟨.mv (.const (.int .i64 (.ofNat 0))), some 23, none⟩, []⟩]
def r12_6 : List XLine := [⟨⟨.bin .lss 3 .num (.slot 23) (.slot 22), some 24, none⟩, []⟩]
def r12_7 : List XLine := [⟨⟨.iaddr 1 (.slot 21) (.slot 23), some 25, none⟩, []⟩,
  ⟨⟨.load false 1 (.slot 25), some 26, none⟩, []⟩,
  ⟨⟨.mv (.slot 26), some 7, none⟩, []⟩]
def r12_8 : List XLine := [⟨⟨.mv (.slot 5), some 27, none⟩, []⟩,
  ⟨⟨.mv (.slot 7), some 28, none⟩, []⟩,
  ⟨⟨.call (.const (.func 29 [] [])) [(.slot 27), (.slot 28), (.const (.bool false))], some 29, none⟩, []⟩]
def r12_9 : List XLine := [⟨⟨.bin .add 3 .num (.slot 23) (.const (.int .i64 (.ofNat 1))), some 30, none⟩, []⟩,
  ⟨⟨.mv (.slot 30), some 23, none⟩, []⟩]
def r12_10 : List XLine := [⟨⟨.mv (.slot 5), some 31, none⟩, []⟩,
  ⟨⟨.mv (.slot 31), some 2, none⟩, []⟩,
  ⟨⟨.mv (.const (.int .i64 (.ofNat 0))), some 3, none⟩, []⟩]
def xf12 : XFunc := ⟨(.seq (.region false r12_0)
  (.seq (.seq (.region false r12_1)
  (.seq (.region false r12_2)
  (.cond (.slot 11)
  (.seq (.region false r12_3)
  .ret)
  .skip)))
  (.seq (.region false r12_4)
  (.seq (.seq (.region false r12_5)
  (.block 0 (.loop (.seq (.region false r12_6)
  (.seq (.cond (.slot 24)
  .skip
  (.exit 0))
  (.seq (.block 1 (.seq (.region false r12_7)
  (.region false r12_8)))
  (.region false r12_9)))))))
  (.seq (.region false r12_10)
  .ret))))),
  [.tmp 2, .tmp 3]⟩
theorem xf12_ok : compFunc Try.prog Try.f12 = some xf12 := by kernel_rfl
/- threshing/condition.assignment -/
def r13_0 : List XLine := [⟨⟨.mv (.const .nilm), some 4, none⟩, []⟩]
def r13_1 : List XLine := [⟨⟨.mkmap .i32, some 7, none⟩, []⟩,
  ⟨⟨.mv (.slot 7), some 5, none⟩, []⟩]
def r13_2 : List XLine := [⟨⟨.mv (.const (.int .i64 (.ofNat 1))), some 6, none⟩, []⟩]
def r13_3 : List XLine := [⟨⟨.mv (.slot 6), some 8, none⟩, []⟩,
  ⟨⟨.mv (.slot 0), some 9, none⟩, []⟩,
  ⟨⟨.bin .leq 3 .num (.slot 8) (.slot 9), some 10, none⟩, []⟩]
def r13_4 : List XLine := [⟨⟨.mv (.slot 6), some 13, none⟩, []⟩,
  ⟨⟨.mv (.slot 1), some 14, none⟩, []⟩,
  ⟨⟨.len .slice (.slot 14), some 15, none⟩, []⟩,
  ⟨⟨.bin .leq 3 .num (.slot 13) (.slot 15), some 16, none⟩, []⟩,
  ⟨⟨.mv (.slot 16), some 17, none⟩, []⟩,
  ⟨⟨.mv (.slot 1), some 18, some (17, true)⟩, []⟩,
  ⟨⟨.mv (.slot 6), some 19, some (17, true)⟩, []⟩,
  ⟨⟨.bin .sub 3 .num (.slot 19) (.const (.int .i64 (.ofNat 1))), some 20, some (17, true)⟩, []⟩,
  ⟨⟨.iaddr 1 (.slot 18) (.slot 20), some 21, some (17, true)⟩, []⟩,
  ⟨⟨.load false 1 (.slot 21), some 22, some (17, true)⟩, []⟩,
  ⟨⟨.pick (.slot 17) (.slot 22) (.const (.bool false)), some 23, none⟩, []⟩]
def r13_5 : List XLine := [⟨⟨.mv (.slot 5), some 24, none⟩, []⟩,
  ⟨⟨.mv (.slot 6), some 25, none⟩, []⟩,
  ⟨⟨.conv .i32 (.slot 25), some 26, none⟩, []⟩,
  ⟨⟨.mapup .i32 (.slot 24) (.slot 26) (.const (.bool true)), none, none⟩, []⟩]
def r13_6 : List XLine := [⟨⟨.mv (.slot 5), some 27, none⟩, []⟩,
  ⟨⟨.mv (.slot 6), some 28, none⟩, []⟩,
  ⟨⟨.conv .i32 (.slot 28), some 29, none⟩, []⟩,
  ⟨⟨.un .neg (.slot 29), some 30, none⟩, []⟩,
  ⟨⟨.mapup .i32 (.slot 27) (.slot 30) (.const (.bool true)), none, none⟩, []⟩]
def r13_7 : List XLine := [⟨⟨.mv (.slot 6), some 11, none⟩, []⟩,
  ⟨⟨.bin .add 3 .num (.slot 11) (.const (.int .i64 (.ofNat 1))), some 12, none⟩, []⟩,
  ⟨⟨.mv (.slot 12), some 6, none⟩, []⟩]
def r13_8 : List XLine := [⟨⟨.mv (.slot 5), some 31, none⟩, []⟩,
  ⟨⟨.mv (.slot 31), some 4, none⟩, []⟩]
def xf13 : XFunc := ⟨(.seq (.region false r13_0)
  (.seq (.region false r13_1)
  (.seq (.seq (.region false r13_2)
  (.block 0 (.loop (.seq (.seq (.region false r13_3)
  (.cond (.slot 10)
  .skip
  (.exit 0)))
  (.seq (.block 1 (.seq (.region false r13_4)
  (.cond (.slot 23)
  (.region false r13_5)
  (.region false r13_6))))
  (.region false r13_7))))))
  (.seq (.region false r13_8)
  .ret)))),
  [.tmp 4]⟩
theorem xf13_ok : compFunc Try.prog Try.f13 = some xf13 := by kernel_rfl
/- (*threshing/base.Base).Vars -/
def r14_0 : List XLine := [⟨⟨.mv (.const (.int .i64 (.ofNat 0))), some 2, none⟩, []⟩]
def r14_1 : List XLine := [⟨⟨.mv (.slot 0), some 3, none⟩, []⟩,
  ⟨⟨.bin .eql 22 .ptr (.slot 3) (.const .nilp), some 4, none⟩, []⟩]
def r14_2 : List XLine := [⟨⟨.mv (.const (.int .i64 (.ofNat 0))), some 2, none⟩, []⟩]
def r14_3 : List XLine := [⟨⟨.mv (.slot 0), some 5, none⟩, []⟩,
  ⟨⟨.nilCheck (.slot 5), some 6, none⟩, []⟩,
  ⟨⟨.faddr 0 (.slot 6), some 7, none⟩, []⟩,
  ⟨⟨.load false 1 (.slot 7), some 8, none⟩, []⟩,
  ⟨⟨.mv (.slot 8), some 2, none⟩, []⟩]
def xf14 : XFunc := ⟨(.seq (.region false r14_0)
  (.seq (.seq (.region false r14_1)
  (.cond (.slot 4)
  (.seq (.region false r14_2)
  .ret)
  .skip))
  (.seq (.region false r14_3)
  .ret))),
  [.tmp 2]⟩
theorem xf14_ok : compFunc Try.prog Try.f14 = some xf14 := by kernel_rfl
/- threshing/cnf.Normal -/
def r15_0 : List XLine := [⟨⟨.mv (.const .nils), some 2, none⟩, []⟩,
  ⟨⟨.mv (.const (.bool false)), some 3, none⟩, []⟩]
def r15_1 : List XLine := [⟨⟨.mv (.slot 0), some 7, none⟩, []⟩,
  ⟨⟨.call (.const (.func 25 [] [])) [(.slot 7)], some 8, none⟩, []⟩,
  ⟨⟨.mv (.slot 8), some 4, none⟩, []⟩]
def r15_2 : List XLine := [⟨⟨.mv (.slot 4), some 9, none⟩, []⟩,
  ⟨⟨.call (.const (.func 36 [] [])) [(.slot 9), (.const (.func 37 [] []))], some 10, none⟩, []⟩]
def r15_3 : List XLine := [⟨⟨.mv (.slot 4), some 11, none⟩, []⟩,
  ⟨⟨.call (.const (.func 38 [] [])) [(.slot 11)], some 12, none⟩, []⟩,
  ⟨⟨.mv (.slot 12), some 4, none⟩, []⟩]
def r15_4 : List XLine := [⟨⟨.mv (.const (.bool false)), some 5, none⟩, []⟩]
def r15_5 : List XLine := [⟨⟨.mv (.slot 4), some 13, none⟩, []⟩,
  ⟨⟨.len .slice (.slot 13), some 14, none⟩, []⟩,
  ⟨⟨.mv (.const (.int .i64 (.ofNat 0))), some 15, none⟩, []⟩]
def r15_6 : List XLine := [⟨⟨.bin .lss 3 .num (.slot 15) (.slot 14), some 16, none⟩, []⟩]
def r15_7 : List XLine := [⟨⟨.mv (.slot 15), some 17, none⟩, []⟩,
  ⟨⟨.mv (.slot 17), some 6, none⟩, []⟩]
def r15_8 : List XLine := [⟨⟨.mv (.slot 5), some 18, none⟩, []⟩,
  ⟨⟨.mv (.slot 18), some 19, none⟩, []⟩,
  ⟨⟨.mv (.slot 6), some 20, some (19, false)⟩, []⟩,
  ⟨⟨.bin .gtr 3 .num (.slot 20) (.const (.int .i64 (.ofNat 0))), some 21, some (19, false)⟩, []⟩,
  ⟨⟨.mv (.slot 21), some 22, some (19, false)⟩, []⟩,
  ⟨⟨.mv (.slot 4), some 23, some (22, true)⟩, []⟩,
  ⟨⟨.mv (.slot 6), some 24, some (22, true)⟩, []⟩,
  ⟨⟨.iaddr 1 (.slot 23) (.slot 24), some 25, some (22, true)⟩, []⟩,
  ⟨⟨.load false 1 (.slot 25), some 26, some (22, true)⟩, []⟩,
  ⟨⟨.bin .gtr 24 .num (.slot 26) (.const (.int .i32 (.ofNat 0))), some 27, some (22, true)⟩, []⟩,
  ⟨⟨.pick (.slot 22) (.slot 27) (.const (.bool false)), some 28, some (19, false)⟩, []⟩,
  ⟨⟨.mv (.slot 28), some 29, some (19, false)⟩, []⟩,
  ⟨⟨.mv (.slot 4), some 30, some (29, true)⟩, []⟩,
  ⟨⟨.mv (.slot 6), some 31, some (29, true)⟩, []⟩,
  ⟨⟨.iaddr 1 (.slot 30) (.slot 31), some 32, some (29, true)⟩, []⟩,
  ⟨⟨.load false 1 (.slot 32), some 33, some (29, true)⟩, []⟩,
  ⟨⟨.mv (.slot 4), some 34, some (29, true)⟩, []⟩,
  ⟨⟨.mv (.slot 6), some 35, some (29, true)⟩, []⟩,
  ⟨⟨.bin .sub 3 .num (.slot 35) (.const (.int .i64 (.ofNat 1))), some 36, some (29, true)⟩, []⟩,
  ⟨⟨.iaddr 1 (.slot 34) (.slot 36), some 37, some (29, true)⟩, []⟩,
  ⟨⟨.load false 1 (.slot 37), some 38, some (29, true)⟩, []⟩,
  ⟨⟨.un .neg (.slot 38), some 39, some (29, true)⟩, []⟩,
  ⟨⟨.bin .eql 24 .num (.slot 33) (.slot 39), some 40, some (29, true)⟩, []⟩,
  ⟨⟨.pick (.slot 29) (.slot 40) (.const (.bool false)), some 41, some (19, false)⟩, []⟩,
  ⟨⟨.pick (.slot 19) (.const (.bool true)) (.slot 41), some 42, none⟩, []⟩,
  ⟨⟨.mv (.slot 42), some 5, none⟩, []⟩]
def r15_9 : List XLine := [⟨⟨.bin .add 3 .num (.slot 15) (.const (.int .i64 (.ofNat 1))), some 43, none⟩, []⟩,
  ⟨⟨.mv (.slot 43), some 15, none⟩, []⟩]
def r15_10 : List XLine := [⟨⟨.mv (.slot 4), some 44, none⟩, []⟩,
  ⟨⟨.call (.const (.func 39 [] [])) [(.slot 44)], some 45, none⟩, []⟩,
  ⟨⟨.mv (.slot 5), some 46, none⟩, []⟩,
  ⟨⟨.mv (.slot 45), some 2, none⟩, []⟩,
  ⟨⟨.mv (.slot 46), some 3, none⟩, []⟩]
def xf15 : XFunc := ⟨(.seq (.region false r15_0)
  (.seq (.region false r15_1)
  (.seq (.region false r15_2)
  (.seq (.region false r15_3)
  (.seq (.region false r15_4)
  (.seq (.seq (.region false r15_5)
  (.block 0 (.loop (.seq (.region false r15_6)
  (.seq (.cond (.slot 16)
  .skip
  (.exit 0))
  (.seq (.block 1 (.seq (.region false r15_7)
  (.region true r15_8)))
  (.region false r15_9)))))))
  (.seq (.region false r15_10)
  .ret))))))),
  [.tmp 2, .tmp 3]⟩
theorem xf15_ok : compFunc Try.prog Try.f15 = some xf15 := by kernel_rfl
/- threshing/condition.rest -/
def r16_0 : List XLine := [⟨⟨.mv (.const .nilm), some 8, none⟩, []⟩]
def r16_1 : List XLine := [⟨⟨.mv (.slot 1), some 17, none⟩, []⟩,
  ⟨⟨.call (.const (.func 40 [] [])) [(.slot 17)], some 18, none⟩, []⟩,
  ⟨⟨.mkmap .i32, some 19, none⟩, []⟩,
  ⟨⟨.alloc [.nilm], some 9, none⟩, []⟩,
  ⟨⟨.alloc [.nilm], some 10, none⟩, []⟩,
  ⟨⟨.store 1 (.slot 9) (.slot 18), none, none⟩, []⟩,
  ⟨⟨.store 1 (.slot 10) (.slot 19), none, none⟩, []⟩]
def r16_2 : List XLine := [⟨⟨.mv (.slot 2), some 20, none⟩, []⟩,
  ⟨⟨.range .i32 (.slot 20), some 21, none⟩, []⟩]
def r16_3 : List XLine := [⟨⟨.next (.slot 21), some 22, none⟩, []⟩,
  ⟨⟨.extract (.slot 22) 0, some 23, none⟩, []⟩]
def r16_4 : List XLine := [⟨⟨.entry (.slot 21), some 24, none⟩, []⟩,
  ⟨⟨.extract (.slot 24) 0, some 25, none⟩, []⟩,
  ⟨⟨.mv (.slot 25), some 11, none⟩, []⟩]
def r16_5 : List XLine := [⟨⟨.load false 1 (.slot 9), some 26, none⟩, []⟩,
  ⟨⟨.mv (.slot 11), some 27, none⟩, []⟩,
  ⟨⟨.delete .i32 (.slot 26) (.slot 27), none, none⟩, []⟩]
def r16_6 : List XLine := [⟨⟨.mv (.slot 3), some 28, none⟩, []⟩,
  ⟨⟨.mv (.slot 11), some 29, none⟩, []⟩,
  ⟨⟨.un .neg (.slot 29), some 30, none⟩, []⟩,
  ⟨⟨.call (.const (.func 41 [] [])) [(.slot 28), (.slot 30)], some 31, none⟩, []⟩]
def r16_7 : List XLine := [⟨⟨.load false 1 (.slot 10), some 32, none⟩, []⟩,
  ⟨⟨.mv (.slot 11), some 33, none⟩, []⟩,
  ⟨⟨.mapup .i32 (.slot 32) (.slot 33) (.const (.bool true)), none, none⟩, []⟩]
def r16_8 : List XLine := [⟨⟨.mkfunc 42 [] [(.slot 9), (.slot 10)], some 34, none⟩, []⟩,
  ⟨⟨.alloc [.nilf], some 12, none⟩, []⟩,
  ⟨⟨.store 1 (.slot 12) (.slot 34), none, none⟩, []⟩]
def r16_9 : List XLine := [⟨⟨.alloc [(.bool false)], some 13, none⟩, []⟩,
  ⟨⟨.store 1 (.slot 13) (.const (.bool true)), none, none⟩, []⟩]
def r16_10 : List XLine := [⟨⟨.load false 1 (.slot 13), some 35, none⟩, []⟩]
def r16_11 : List XLine := [⟨⟨.store 1 (.slot 13) (.const (.bool false)), none, none⟩, []⟩]
def r16_12 : List XLine := [⟨⟨.mv (.slot 0), some 36, none⟩, []⟩,
  ⟨⟨.call (.const (.func 44 [] [])) [(.slot 36)], some 37, none⟩, []⟩]
def r16_13 : List XLine := [⟨⟨.alloc [(.int .i64 (.ofNat 0)), .nils, (.bool false)], some 14, none⟩, []⟩,
  ⟨⟨.store 3 (.slot 14) (.slot 38), none, none⟩, []⟩]
def r16_14 : List XLine := [⟨⟨.load false 1 (.slot 12), some 39, none⟩, []⟩,
  ⟨⟨.faddr 1 (.slot 14), some 40, none⟩, []⟩,
  ⟨⟨.load false 1 (.slot 40), some 41, none⟩, []⟩,
  ⟨⟨.call (.slot 39) [(.slot 41)], some 42, none⟩, []⟩]
def r16_15 : List XLine := [⟨⟨.faddr 1 (.slot 14), some 43, none⟩, []⟩,
  ⟨⟨.load false 1 (.slot 43), some 44, none⟩, []⟩,
  ⟨⟨.len .slice (.slot 44), some 45, none⟩, []⟩,
  ⟨⟨.mv (.const (.int .i64 (.ofNat 0))), some 46, none⟩, []⟩]
def r16_16 : List XLine := [⟨⟨.bin .lss 3 .num (.slot 46) (.slot 45), some 47, none⟩, []⟩]
def r16_17 : List XLine := [⟨⟨.iaddr 1 (.slot 44) (.slot 46), some 48, none⟩, []⟩,
  ⟨⟨.load false 1 (.slot 48), some 49, none⟩, []⟩,
  ⟨⟨.mv (.slot 49), some 16, none⟩, []⟩]
def r16_18 : List XLine := [⟨⟨.load false 1 (.slot 9), some 50, none⟩, []⟩,
  ⟨⟨.mv (.slot 16), some 51, none⟩, []⟩,
  ⟨⟨.un .neg (.slot 51), some 52, none⟩, []⟩,
  ⟨⟨.lookup .i32 (.bool false) (.slot 50) (.slot 52) false, some 53, none⟩, []⟩]
def r16_19 : List XLine := [⟨⟨.load false 1 (.slot 9), some 54, none⟩, []⟩,
  ⟨⟨.mv (.slot 16), some 55, none⟩, []⟩,
  ⟨⟨.un .neg (.slot 55), some 56, none⟩, []⟩,
  ⟨⟨.delete .i32 (.slot 54) (.slot 56), none, none⟩, []⟩]
def r16_20 : List XLine := [⟨⟨.store 1 (.slot 13) (.const (.bool true)), none, none⟩, []⟩]
def r16_21 : List XLine := [⟨⟨.bin .add 3 .num (.slot 46) (.const (.int .i64 (.ofNat 1))), some 57, none⟩, []⟩,
  ⟨⟨.mv (.slot 57), some 46, none⟩, []⟩]
def r16_22 : List XLine := [⟨⟨.load false 1 (.slot 13), some 58, none⟩, []⟩]
def r16_23 : List XLine := [⟨⟨.alloc [(.bool false)], some 13, none⟩, []⟩,
  ⟨⟨.store 1 (.slot 13) (.slot 58), none, none⟩, []⟩]
def r16_24 : List XLine := [⟨⟨.load false 1 (.slot 9), some 59, none⟩, []⟩,
  ⟨⟨.mv (.slot 59), some 8, none⟩, []⟩]
def xf16 : XFunc := ⟨(.seq (.region false r16_0)
  (.seq (.region false r16_1)
  (.seq (.seq (.region false r16_2)
  (.block 0 (.loop (.seq (.region false r16_3)
  (.seq (.cond (.slot 23)
  .skip
  (.exit 0))
  (.block 1 (.seq (.region false r16_4)
  (.seq (.region false r16_5)
  (.seq (.region false r16_6)
  (.cond (.slot 31)
  (.region false r16_7)
  .skip))))))))))
  (.seq (.region false r16_8)
  (.seq (.seq (.region false r16_9)
  (.block 2 (.loop (.seq (.seq (.region false r16_10)
  (.cond (.slot 35)
  .skip
  (.exit 2)))
  (.seq (.block 3 (.seq (.region false r16_11)
  (.seq (.region false r16_12)
  (.block 4 (.rangeFunc (.slot 37) [38] (.region false r16_13)
  (.block 5 (.seq (.seq (.region false r16_14)
  (.cond (.slot 42)
  (.exit 5)
  .skip))
  (.seq (.region false r16_15)
  (.block 6 (.loop (.seq (.region false r16_16)
  (.seq (.cond (.slot 47)
  .skip
  (.exit 6))
  (.seq (.block 7 (.seq (.region false r16_17)
  (.seq (.region false r16_18)
  (.cond (.slot 53)
  (.seq (.region false r16_19)
  (.region false r16_20))
  .skip))))
  (.region false r16_21))))))))))))))
  (.seq (.region false r16_22)
  (.region false r16_23)))))))
  (.seq (.region false r16_24)
  .ret)))))),
  [.tmp 8]⟩
theorem xf16_ok : compFunc Try.prog Try.f16 = some xf16 := by kernel_rfl
/- threshing/condition.conditions -/
def r17_0 : List XLine := [⟨⟨.box (.slot 1), some 3, none⟩, []⟩,
  ⟨⟨.mv (.const .nilm), some 4, none⟩, []⟩]
def r17_1 : List XLine := [⟨⟨.mkmap .i32, some 9, none⟩, []⟩,
  ⟨⟨.alloc [.nilm], some 5, none⟩, []⟩,
  ⟨⟨.store 1 (.slot 5) (.slot 9), none, none⟩, []⟩]
def r17_2 : List XLine := [⟨⟨.mv (.slot 0), some 10, none⟩, []⟩,
  ⟨⟨.call (.const (.func 44 [] [])) [(.slot 10)], some 11, none⟩, []⟩]
def r17_3 : List XLine := [⟨⟨.alloc [(.int .i64 (.ofNat 0)), .nils, (.bool false)], some 6, none⟩, []⟩,
  ⟨⟨.store 3 (.slot 6) (.slot 12), none, none⟩, []⟩]
def r17_4 : List XLine := [⟨⟨.load false 1 (.slot 3), some 13, none⟩, []⟩,
  ⟨⟨.faddr 1 (.slot 6), some 14, none⟩, []⟩,
  ⟨⟨.load false 1 (.slot 14), some 15, none⟩, []⟩,
  ⟨⟨.call (.const (.func 43 [] [])) [(.slot 13), (.slot 15)], some 16, none⟩, []⟩]
def r17_5 : List XLine := [⟨⟨.faddr 1 (.slot 6), some 17, none⟩, []⟩,
  ⟨⟨.load false 1 (.slot 17), some 18, none⟩, []⟩,
  ⟨⟨.len .slice (.slot 18), some 19, none⟩, []⟩,
  ⟨⟨.mv (.const (.int .i64 (.ofNat 0))), some 20, none⟩, []⟩]
def r17_6 : List XLine := [⟨⟨.bin .lss 3 .num (.slot 20) (.slot 19), some 21, none⟩, []⟩]
def r17_7 : List XLine := [⟨⟨.iaddr 1 (.slot 18) (.slot 20), some 22, none⟩, []⟩,
  ⟨⟨.load false 1 (.slot 22), some 23, none⟩, []⟩,
  ⟨⟨.mv (.slot 23), some 8, none⟩, []⟩]
def r17_8 : List XLine := [⟨⟨.load false 1 (.slot 5), some 24, none⟩, []⟩,
  ⟨⟨.mv (.slot 8), some 25, none⟩, []⟩,
  ⟨⟨.un .neg (.slot 25), some 26, none⟩, []⟩,
  ⟨⟨.mapup .i32 (.slot 24) (.slot 26) (.const (.bool true)), none, none⟩, []⟩]
def r17_9 : List XLine := [⟨⟨.bin .add 3 .num (.slot 20) (.const (.int .i64 (.ofNat 1))), some 27, none⟩, []⟩,
  ⟨⟨.mv (.slot 27), some 20, none⟩, []⟩]
def r17_10 : List XLine := [⟨⟨.load false 1 (.slot 5), some 28, none⟩, []⟩,
  ⟨⟨.mv (.slot 28), some 4, none⟩, []⟩]
def xf17 : XFunc := ⟨(.seq (.region false r17_0)
  (.seq (.region false r17_1)
  (.seq (.seq (.region false r17_2)
  (.block 0 (.rangeFunc (.slot 11) [12] (.region false r17_3)
  (.block 1 (.seq (.seq (.region false r17_4)
  (.cond (.slot 16)
  (.exit 1)
  .skip))
  (.seq (.region false r17_5)
  (.block 2 (.loop (.seq (.region false r17_6)
  (.seq (.cond (.slot 21)
  .skip
  (.exit 2))
  (.seq (.block 3 (.seq (.region false r17_7)
  (.region false r17_8)))
  (.region false r17_9))))))))))))
  (.seq (.region false r17_10)
  .ret)))),
  [.tmp 4]⟩
theorem xf17_ok : compFunc Try.prog Try.f17 = some xf17 := by kernel_rfl
/- slices.IndexFunc[threshing/api.Clause,threshing/api.Lit] -/
def r18_0 : List XLine := [⟨⟨.mv (.const (.int .i64 (.ofNat 0))), some 4, none⟩, []⟩]
def r18_1 : List XLine := [⟨⟨.mv (.slot 0), some 6, none⟩, []⟩,
  ⟨⟨.len .slice (.slot 6), some 7, none⟩, []⟩,
  ⟨⟨.mv (.const (.int .i64 (.ofNat 0))), some 8, none⟩, []⟩]
def r18_2 : List XLine := [⟨⟨.bin .lss 3 .num (.slot 8) (.slot 7), some 9, none⟩, []⟩]
def r18_3 : List XLine := [⟨⟨.mv (.slot 8), some 10, none⟩, []⟩,
  ⟨⟨.mv (.slot 10), some 5, none⟩, []⟩]
def r18_4 : List XLine := [⟨⟨.mv (.slot 1), some 11, none⟩, []⟩,
  ⟨⟨.mv (.slot 0), some 12, none⟩, []⟩,
  ⟨⟨.mv (.slot 5), some 13, none⟩, []⟩,
  ⟨⟨.iaddr 1 (.slot 12) (.slot 13), some 14, none⟩, []⟩,
  ⟨⟨.load false 1 (.slot 14), some 15, none⟩, []⟩,
  ⟨⟨.call (.slot 11) [(.slot 15)], some 16, none⟩, []⟩]
def r18_5 : List XLine := [⟨⟨.mv (.slot 5), some 17, none⟩, []⟩,
  ⟨⟨.mv (.slot 17), some 4, none⟩, []⟩]
def r18_6 : List XLine := [⟨⟨.bin .add 3 .num (.slot 8) (.const (.int .i64 (.ofNat 1))), some 18, none⟩, []⟩,
  ⟨⟨.mv (.slot 18), some 8, none⟩, []⟩]
def r18_7 : List XLine := [⟨⟨.mv (.const (.int .i64 (.negSucc 0))), some 4, none⟩, []⟩]
def xf18 : XFunc := ⟨(.seq (.region false r18_0)
  (.seq (.seq (.region false r18_1)
  (.block 0 (.loop (.seq (.region false r18_2)
  (.seq (.cond (.slot 9)
  .skip
  (.exit 0))
  (.seq (.block 1 (.seq (.region false r18_3)
  (.seq (.region false r18_4)
  (.cond (.slot 16)
  (.seq (.region false r18_5)
  .ret)
  .skip))))
  (.region false r18_6)))))))
  (.seq (.region false r18_7)
  .ret))),
  [.tmp 4]⟩
theorem xf18_ok : compFunc Try.prog Try.f18 = some xf18 := by kernel_rfl
/- threshing/condition.Condition$1 -/
def r19_0 : List XLine := [⟨⟨.mv (.const (.bool false)), some 3, none⟩, []⟩]
def r19_1 : List XLine := [⟨⟨.load false 1 (.slot 1), some 4, none⟩, []⟩,
  ⟨⟨.mv (.slot 0), some 5, none⟩, []⟩,
  ⟨⟨.lookup .i32 (.bool false) (.slot 4) (.slot 5) false, some 6, none⟩, []⟩,
  ⟨⟨.mv (.slot 6), some 3, none⟩, []⟩]
def xf19 : XFunc := ⟨(.seq (.region false r19_0)
  (.seq (.region false r19_1)
  .ret)),
  [.tmp 3]⟩
theorem xf19_ok : compFunc Try.prog Try.f19 = some xf19 := by kernel_rfl
end Go.Proofs.Ytogolfiljijhlaa

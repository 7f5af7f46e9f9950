/- The functions of the program in X's code, printed by a program of ours; each is what the program's own is turned to. -/
import Derived.Test.YtcpkfdabkpeomaaGreatProg
import Derived.Test.YtcpkfdabkpeomaaGreatW0
import Derived.KernelRfl
namespace Go.Proofs.YtcpkfdabkpeomaaGreat
open Go.Xr
/- gosem.cut.init -/
def r2_0 : List XLine := [⟨⟨.call (.const (.func 1 [] [])) [], some 0, none⟩, []⟩]
def xf2 : XFunc := ⟨(.region false r2_0),
  []⟩
theorem xf2_ok : compFunc Tryz.prog Tryz.f2 = some xf2 := by kernel_rfl
/- threshing/threshinglaw22.EqualKnown -/
def r3_0 : List XLine := [⟨⟨.mv (.const (.bool false)), some 0, none⟩, []⟩]
def r3_1 : List XLine := [⟨⟨.bslice 1 [(.int .i32 (.ofNat 0)), (.int .i32 (.ofNat 0))] [(0, 1, (.const (.int .i32 (.negSucc 0)))), (1, 1, (.const (.int .i32 (.ofNat 2))))] 2, some 24, none⟩, []⟩,
  ⟨⟨.bslice 1 [(.int .i32 (.ofNat 0)), (.int .i32 (.ofNat 0))] [(0, 1, (.const (.int .i32 (.negSucc 1)))), (1, 1, (.const (.int .i32 (.negSucc 0))))] 2, some 25, none⟩, []⟩,
  ⟨⟨.bslice 1 [(.int .i32 (.ofNat 0)), (.int .i32 (.ofNat 0))] [(0, 1, (.const (.int .i32 (.ofNat 1)))), (1, 1, (.const (.int .i32 (.ofNat 3))))] 2, some 26, none⟩, []⟩,
  ⟨⟨.bslice 1 [(.int .i32 (.ofNat 0)), (.int .i32 (.ofNat 0))] [(0, 1, (.const (.int .i32 (.ofNat 1)))), (1, 1, (.const (.int .i32 (.negSucc 2))))] 2, some 27, none⟩, []⟩,
  ⟨⟨.bslice 1 [.nils, .nils, .nils, .nils] [(0, 1, (.slot 24)), (1, 1, (.slot 25)), (2, 1, (.slot 26)), (3, 1, (.slot 27))] 4, some 28, none⟩, []⟩,
  ⟨⟨.call (.const (.func 4 [] [])) [(.slot 28)], some 29, none⟩, []⟩,
  ⟨⟨.mv (.slot 29), some 1, none⟩, []⟩]
def r3_2 : List XLine := [⟨⟨.mv (.slot 1), some 31, none⟩, []⟩,
  ⟨⟨.call (.const (.func 5 [] [])) [(.slot 31), (.const (.int .i64 (.ofNat 9)))], some 32, none⟩, []⟩,
  ⟨⟨.mv (.slot 32), some 30, none⟩, []⟩,
  ⟨⟨.extract (.slot 30) 0, some 33, none⟩, []⟩,
  ⟨⟨.extract (.slot 30) 1, some 34, none⟩, []⟩,
  ⟨⟨.mv (.slot 33), some 2, none⟩, []⟩,
  ⟨⟨.mv (.slot 34), some 3, none⟩, []⟩]
def r3_3 : List XLine := [⟨⟨.mv (.slot 1), some 36, none⟩, []⟩,
  ⟨⟨.call (.const (.func 6 [] [])) [(.slot 36), (.const (.int .i64 (.ofNat 5)))], some 37, none⟩, []⟩,
  ⟨⟨.mv (.slot 37), some 35, none⟩, []⟩,
  ⟨⟨.extract (.slot 35) 0, some 38, none⟩, []⟩,
  ⟨⟨.extract (.slot 35) 1, some 39, none⟩, []⟩,
  ⟨⟨.alloc [(.int .i64 (.ofNat 0)), .nils, (.bool false)], some 4, none⟩, []⟩,
  ⟨⟨.store 3 (.slot 4) (.slot 38), none, none⟩, []⟩,
  ⟨⟨.mv (.slot 39), some 5, none⟩, []⟩]
def r3_4 : List XLine := [⟨⟨.mv (.slot 1), some 41, none⟩, []⟩,
  ⟨⟨.call (.const (.func 7 [] [])) [(.slot 41)], some 42, none⟩, []⟩,
  ⟨⟨.mv (.slot 42), some 40, none⟩, []⟩,
  ⟨⟨.extract (.slot 40) 0, some 43, none⟩, []⟩,
  ⟨⟨.extract (.slot 40) 1, some 44, none⟩, []⟩,
  ⟨⟨.mv (.slot 43), some 6, none⟩, []⟩,
  ⟨⟨.mv (.slot 44), some 7, none⟩, []⟩]
def r3_5 : List XLine := [⟨⟨.mv (.slot 2), some 45, none⟩, []⟩,
  ⟨⟨.bin .eql 3 .num (.slot 45) (.const (.int .i64 (.ofNat 1))), some 46, none⟩, []⟩,
  ⟨⟨.mv (.slot 46), some 47, none⟩, []⟩,
  ⟨⟨.mv (.slot 3), some 48, some (47, true)⟩, []⟩,
  ⟨⟨.bin .eql 27 .num (.slot 48) (.const (.int .i64 (.ofNat 0))), some 49, some (47, true)⟩, []⟩,
  ⟨⟨.pick (.slot 47) (.slot 49) (.const (.bool false)), some 50, none⟩, []⟩,
  ⟨⟨.mv (.slot 50), some 51, none⟩, []⟩,
  ⟨⟨.mv (.slot 5), some 52, some (51, true)⟩, []⟩,
  ⟨⟨.pick (.slot 51) (.slot 52) (.const (.bool false)), some 53, none⟩, []⟩,
  ⟨⟨.mv (.slot 53), some 54, none⟩, []⟩,
  ⟨⟨.faddr 1 (.slot 4), some 55, some (54, true)⟩, []⟩,
  ⟨⟨.load false 1 (.slot 55), some 56, some (54, true)⟩, []⟩,
  ⟨⟨.bslice 1 [(.int .i32 (.ofNat 0))] [(0, 1, (.const (.int .i32 (.negSucc 0))))] 1, some 57, some (54, true)⟩, []⟩,
  ⟨⟨.call (.const (.func 8 [] [])) [(.slot 56), (.slot 57)], some 58, some (54, true)⟩, []⟩,
  ⟨⟨.pick (.slot 54) (.slot 58) (.const (.bool false)), some 59, none⟩, []⟩,
  ⟨⟨.mv (.slot 59), some 60, none⟩, []⟩,
  ⟨⟨.mv (.slot 7), some 61, some (60, true)⟩, []⟩,
  ⟨⟨.pick (.slot 60) (.slot 61) (.const (.bool false)), some 62, none⟩, []⟩,
  ⟨⟨.mv (.slot 62), some 63, none⟩, []⟩,
  ⟨⟨.mv (.slot 6), some 64, some (63, true)⟩, []⟩,
  ⟨⟨.bin .eql 2 .num (.slot 64) (.const (.int .i64 (.ofNat 6))), some 65, some (63, true)⟩, []⟩,
  ⟨⟨.pick (.slot 63) (.slot 65) (.const (.bool false)), some 66, none⟩, []⟩,
  ⟨⟨.mv (.slot 66), some 8, none⟩, []⟩]
def r3_6 : List XLine := [⟨⟨.mv (.slot 1), some 68, none⟩, []⟩,
  ⟨⟨.call (.const (.func 5 [] [])) [(.slot 68), (.const (.int .i64 (.ofNat 9)))], some 69, none⟩, []⟩,
  ⟨⟨.mv (.slot 69), some 67, none⟩, []⟩,
  ⟨⟨.extract (.slot 67) 0, some 70, none⟩, []⟩,
  ⟨⟨.extract (.slot 67) 1, some 71, none⟩, []⟩,
  ⟨⟨.mv (.slot 70), some 9, none⟩, []⟩,
  ⟨⟨.mv (.slot 71), some 10, none⟩, []⟩]
def r3_7 : List XLine := [⟨⟨.bslice 1 [(.int .i32 (.ofNat 0)), (.int .i32 (.ofNat 0))] [(0, 1, (.const (.int .i32 (.negSucc 0)))), (1, 1, (.const (.int .i32 (.ofNat 2))))] 2, some 72, none⟩, []⟩,
  ⟨⟨.bslice 1 [(.int .i32 (.ofNat 0)), (.int .i32 (.ofNat 0))] [(0, 1, (.const (.int .i32 (.negSucc 1)))), (1, 1, (.const (.int .i32 (.ofNat 3))))] 2, some 73, none⟩, []⟩,
  ⟨⟨.bslice 1 [(.int .i32 (.ofNat 0)), (.int .i32 (.ofNat 0))] [(0, 1, (.const (.int .i32 (.negSucc 2)))), (1, 1, (.const (.int .i32 (.ofNat 1))))] 2, some 74, none⟩, []⟩,
  ⟨⟨.bslice 1 [(.int .i32 (.ofNat 0)), (.int .i32 (.ofNat 0))] [(0, 1, (.const (.int .i32 (.ofNat 3)))), (1, 1, (.const (.int .i32 (.ofNat 4))))] 2, some 75, none⟩, []⟩,
  ⟨⟨.bslice 1 [(.int .i32 (.ofNat 0)), (.int .i32 (.ofNat 0))] [(0, 1, (.const (.int .i32 (.negSucc 3)))), (1, 1, (.const (.int .i32 (.negSucc 0))))] 2, some 76, none⟩, []⟩,
  ⟨⟨.bslice 1 [.nils, .nils, .nils, .nils, .nils] [(0, 1, (.slot 72)), (1, 1, (.slot 73)), (2, 1, (.slot 74)), (3, 1, (.slot 75)), (4, 1, (.slot 76))] 5, some 77, none⟩, []⟩,
  ⟨⟨.call (.const (.func 4 [] [])) [(.slot 77)], some 78, none⟩, []⟩,
  ⟨⟨.mv (.slot 78), some 11, none⟩, []⟩]
def r3_8 : List XLine := [⟨⟨.mv (.slot 11), some 80, none⟩, []⟩,
  ⟨⟨.call (.const (.func 5 [] [])) [(.slot 80), (.const (.int .i64 (.ofNat 2)))], some 81, none⟩, []⟩,
  ⟨⟨.mv (.slot 81), some 79, none⟩, []⟩,
  ⟨⟨.extract (.slot 79) 0, some 82, none⟩, []⟩,
  ⟨⟨.extract (.slot 79) 1, some 83, none⟩, []⟩,
  ⟨⟨.mv (.slot 82), some 12, none⟩, []⟩,
  ⟨⟨.mv (.slot 83), some 13, none⟩, []⟩]
def r3_9 : List XLine := [⟨⟨.mv (.slot 12), some 84, none⟩, []⟩,
  ⟨⟨.bin .eql 3 .num (.slot 84) (.const (.int .i64 (.ofNat 2))), some 85, none⟩, []⟩,
  ⟨⟨.mv (.slot 85), some 86, none⟩, []⟩,
  ⟨⟨.mv (.slot 13), some 87, some (86, true)⟩, []⟩,
  ⟨⟨.bin .eql 27 .num (.slot 87) (.const (.int .i64 (.ofNat 0))), some 88, some (86, true)⟩, []⟩,
  ⟨⟨.pick (.slot 86) (.slot 88) (.const (.bool false)), some 89, none⟩, []⟩,
  ⟨⟨.mv (.slot 89), some 90, none⟩, []⟩,
  ⟨⟨.mv (.slot 11), some 91, some (90, true)⟩, []⟩,
  ⟨⟨.call (.const (.func 9 [] [])) [(.slot 91), (.const (.int .i32 (.ofNat 2)))], some 92, some (90, true)⟩, []⟩,
  ⟨⟨.len .slice (.slot 92), some 93, some (90, true)⟩, []⟩,
  ⟨⟨.bin .eql 3 .num (.slot 93) (.const (.int .i64 (.ofNat 0))), some 94, some (90, true)⟩, []⟩,
  ⟨⟨.pick (.slot 90) (.slot 94) (.const (.bool false)), some 95, none⟩, []⟩,
  ⟨⟨.mv (.slot 95), some 96, none⟩, []⟩,
  ⟨⟨.mv (.slot 11), some 97, some (96, true)⟩, []⟩,
  ⟨⟨.call (.const (.func 9 [] [])) [(.slot 97), (.const (.int .i32 (.negSucc 2)))], some 98, some (96, true)⟩, []⟩,
  ⟨⟨.len .slice (.slot 98), some 99, some (96, true)⟩, []⟩,
  ⟨⟨.bin .eql 3 .num (.slot 99) (.const (.int .i64 (.ofNat 0))), some 100, some (96, true)⟩, []⟩,
  ⟨⟨.pick (.slot 96) (.slot 100) (.const (.bool false)), some 101, none⟩, []⟩,
  ⟨⟨.mv (.slot 101), some 102, none⟩, []⟩,
  ⟨⟨.mv (.slot 11), some 103, some (102, true)⟩, []⟩,
  ⟨⟨.call (.const (.func 9 [] [])) [(.slot 103), (.const (.int .i32 (.negSucc 3)))], some 104, some (102, true)⟩, []⟩,
  ⟨⟨.len .slice (.slot 104), some 105, some (102, true)⟩, []⟩,
  ⟨⟨.bin .eql 3 .num (.slot 105) (.const (.int .i64 (.ofNat 1))), some 106, some (102, true)⟩, []⟩,
  ⟨⟨.pick (.slot 102) (.slot 106) (.const (.bool false)), some 107, none⟩, []⟩,
  ⟨⟨.mv (.slot 107), some 14, none⟩, []⟩]
def r3_10 : List XLine := [⟨⟨.mv (.slot 11), some 109, none⟩, []⟩,
  ⟨⟨.call (.const (.func 5 [] [])) [(.slot 109), (.const (.int .i64 (.ofNat 2)))], some 110, none⟩, []⟩,
  ⟨⟨.mv (.slot 110), some 108, none⟩, []⟩,
  ⟨⟨.extract (.slot 108) 0, some 111, none⟩, []⟩,
  ⟨⟨.extract (.slot 108) 1, some 112, none⟩, []⟩,
  ⟨⟨.mv (.slot 111), some 15, none⟩, []⟩,
  ⟨⟨.mv (.slot 112), some 16, none⟩, []⟩]
def r3_11 : List XLine := [⟨⟨.mv (.slot 15), some 113, none⟩, []⟩,
  ⟨⟨.bin .eql 3 .num (.slot 113) (.const (.int .i64 (.ofNat 1))), some 114, none⟩, []⟩,
  ⟨⟨.mv (.slot 114), some 115, none⟩, []⟩,
  ⟨⟨.mv (.slot 16), some 116, some (115, true)⟩, []⟩,
  ⟨⟨.bin .eql 27 .num (.slot 116) (.const (.int .i64 (.ofNat 0))), some 117, some (115, true)⟩, []⟩,
  ⟨⟨.pick (.slot 115) (.slot 117) (.const (.bool false)), some 118, none⟩, []⟩,
  ⟨⟨.mv (.slot 118), some 119, none⟩, []⟩,
  ⟨⟨.mv (.slot 11), some 120, some (119, true)⟩, []⟩,
  ⟨⟨.call (.const (.func 10 [] [])) [(.slot 120)], some 121, some (119, true)⟩, []⟩,
  ⟨⟨.len .slice (.slot 121), some 122, some (119, true)⟩, []⟩,
  ⟨⟨.bin .eql 3 .num (.slot 122) (.const (.int .i64 (.ofNat 0))), some 123, some (119, true)⟩, []⟩,
  ⟨⟨.pick (.slot 119) (.slot 123) (.const (.bool false)), some 124, none⟩, []⟩,
  ⟨⟨.mv (.slot 124), some 125, none⟩, []⟩,
  ⟨⟨.mv (.slot 11), some 126, some (125, true)⟩, []⟩,
  ⟨⟨.call (.const (.func 9 [] [])) [(.slot 126), (.const (.int .i32 (.negSucc 3)))], some 127, some (125, true)⟩, []⟩,
  ⟨⟨.len .slice (.slot 127), some 128, some (125, true)⟩, []⟩,
  ⟨⟨.bin .eql 3 .num (.slot 128) (.const (.int .i64 (.ofNat 0))), some 129, some (125, true)⟩, []⟩,
  ⟨⟨.pick (.slot 125) (.slot 129) (.const (.bool false)), some 130, none⟩, []⟩,
  ⟨⟨.mv (.slot 130), some 17, none⟩, []⟩]
def r3_12 : List XLine := [⟨⟨.call (.const (.func 5 [] [])) [(.const .nilp), (.const (.int .i64 (.ofNat 1)))], some 132, none⟩, []⟩,
  ⟨⟨.mv (.slot 132), some 131, none⟩, []⟩,
  ⟨⟨.extract (.slot 131) 0, some 133, none⟩, []⟩,
  ⟨⟨.extract (.slot 131) 1, some 134, none⟩, []⟩,
  ⟨⟨.mv (.slot 133), some 18, none⟩, []⟩,
  ⟨⟨.mv (.slot 134), some 19, none⟩, []⟩]
def r3_13 : List XLine := [⟨⟨.mv (.slot 1), some 136, none⟩, []⟩,
  ⟨⟨.call (.const (.func 5 [] [])) [(.slot 136), (.const (.int .i64 (.negSucc 0)))], some 137, none⟩, []⟩,
  ⟨⟨.mv (.slot 137), some 135, none⟩, []⟩,
  ⟨⟨.extract (.slot 135) 0, some 138, none⟩, []⟩,
  ⟨⟨.extract (.slot 135) 1, some 139, none⟩, []⟩,
  ⟨⟨.mv (.slot 138), some 20, none⟩, []⟩,
  ⟨⟨.mv (.slot 139), some 21, none⟩, []⟩]
def r3_14 : List XLine := [⟨⟨.bslice 1 [(.int .i32 (.ofNat 0)), (.int .i32 (.ofNat 0))] [(0, 1, (.const (.int .i32 (.negSucc 0)))), (1, 1, (.const (.int .i32 (.ofNat 2))))] 2, some 141, none⟩, []⟩,
  ⟨⟨.bslice 1 [(.int .i32 (.ofNat 0)), (.int .i32 (.ofNat 0))] [(0, 1, (.const (.int .i32 (.ofNat 1)))), (1, 1, (.const (.int .i32 (.negSucc 1))))] 2, some 142, none⟩, []⟩,
  ⟨⟨.bslice 1 [.nils, .nils] [(0, 1, (.slot 141)), (1, 1, (.slot 142))] 2, some 143, none⟩, []⟩,
  ⟨⟨.call (.const (.func 4 [] [])) [(.slot 143)], some 144, none⟩, []⟩,
  ⟨⟨.call (.const (.func 5 [] [])) [(.slot 144), (.const (.int .i64 (.ofNat 0)))], some 145, none⟩, []⟩,
  ⟨⟨.mv (.slot 145), some 140, none⟩, []⟩,
  ⟨⟨.extract (.slot 140) 0, some 146, none⟩, []⟩,
  ⟨⟨.extract (.slot 140) 1, some 147, none⟩, []⟩,
  ⟨⟨.mv (.slot 146), some 22, none⟩, []⟩,
  ⟨⟨.mv (.slot 147), some 23, none⟩, []⟩]
def r3_15 : List XLine := [⟨⟨.mv (.slot 8), some 148, none⟩, []⟩,
  ⟨⟨.mv (.slot 148), some 149, none⟩, []⟩,
  ⟨⟨.mv (.slot 9), some 150, some (149, true)⟩, []⟩,
  ⟨⟨.bin .eql 3 .num (.slot 150) (.const (.int .i64 (.ofNat 0))), some 151, some (149, true)⟩, []⟩,
  ⟨⟨.pick (.slot 149) (.slot 151) (.const (.bool false)), some 152, none⟩, []⟩,
  ⟨⟨.mv (.slot 152), some 153, none⟩, []⟩,
  ⟨⟨.mv (.slot 10), some 154, some (153, true)⟩, []⟩,
  ⟨⟨.bin .eql 27 .num (.slot 154) (.const (.int .i64 (.ofNat 0))), some 155, some (153, true)⟩, []⟩,
  ⟨⟨.pick (.slot 153) (.slot 155) (.const (.bool false)), some 156, none⟩, []⟩,
  ⟨⟨.mv (.slot 156), some 157, none⟩, []⟩,
  ⟨⟨.mv (.slot 14), some 158, some (157, true)⟩, []⟩,
  ⟨⟨.pick (.slot 157) (.slot 158) (.const (.bool false)), some 159, none⟩, []⟩,
  ⟨⟨.mv (.slot 159), some 160, none⟩, []⟩,
  ⟨⟨.mv (.slot 17), some 161, some (160, true)⟩, []⟩,
  ⟨⟨.pick (.slot 160) (.slot 161) (.const (.bool false)), some 162, none⟩, []⟩,
  ⟨⟨.mv (.slot 162), some 163, none⟩, []⟩,
  ⟨⟨.mv (.slot 19), some 164, some (163, true)⟩, []⟩,
  ⟨⟨.bin .eql 27 .num (.slot 164) (.const (.int .i64 (.ofNat 1))), some 165, some (163, true)⟩, []⟩,
  ⟨⟨.pick (.slot 163) (.slot 165) (.const (.bool false)), some 166, none⟩, []⟩,
  ⟨⟨.mv (.slot 166), some 167, none⟩, []⟩,
  ⟨⟨.mv (.slot 21), some 168, some (167, true)⟩, []⟩,
  ⟨⟨.bin .eql 27 .num (.slot 168) (.const (.int .i64 (.ofNat 2))), some 169, some (167, true)⟩, []⟩,
  ⟨⟨.pick (.slot 167) (.slot 169) (.const (.bool false)), some 170, none⟩, []⟩,
  ⟨⟨.mv (.slot 170), some 171, none⟩, []⟩,
  ⟨⟨.mv (.slot 22), some 172, some (171, true)⟩, []⟩,
  ⟨⟨.bin .eql 3 .num (.slot 172) (.const (.int .i64 (.ofNat 0))), some 173, some (171, true)⟩, []⟩,
  ⟨⟨.pick (.slot 171) (.slot 173) (.const (.bool false)), some 174, none⟩, []⟩,
  ⟨⟨.mv (.slot 174), some 175, none⟩, []⟩,
  ⟨⟨.mv (.slot 23), some 176, some (175, true)⟩, []⟩,
  ⟨⟨.bin .eql 27 .num (.slot 176) (.const (.int .i64 (.ofNat 0))), some 177, some (175, true)⟩, []⟩,
  ⟨⟨.pick (.slot 175) (.slot 177) (.const (.bool false)), some 178, none⟩, []⟩,
  ⟨⟨.mv (.slot 178), some 179, none⟩, []⟩,
  ⟨⟨.call (.const (.func 11 [] [])) [], some 180, some (179, true)⟩, []⟩,
  ⟨⟨.pick (.slot 179) (.slot 180) (.const (.bool false)), some 181, none⟩, []⟩,
  ⟨⟨.mv (.slot 181), some 0, none⟩, []⟩]
def xf3 : XFunc := ⟨(.seq (.region false r3_0)
  (.seq (.region false r3_1)
  (.seq (.region false r3_2)
  (.seq (.region false r3_3)
  (.seq (.region false r3_4)
  (.seq (.region false r3_5)
  (.seq (.region false r3_6)
  (.seq (.region false r3_7)
  (.seq (.region false r3_8)
  (.seq (.region false r3_9)
  (.seq (.region false r3_10)
  (.seq (.region false r3_11)
  (.seq (.region false r3_12)
  (.seq (.region false r3_13)
  (.seq (.region false r3_14)
  (.seq (.region false r3_15)
  .ret)))))))))))))))),
  [.tmp 0]⟩
theorem xf3_ok : compFunc Tryz.prog Tryz.f3 = some xf3 := by kernel_rfl
/- threshing/threshinglaw22.began -/
def r4_0 : List XLine := [⟨⟨.mv (.const .nilp), some 2, none⟩, []⟩]
def r4_1 : List XLine := [⟨⟨.mv (.slot 0), some 6, none⟩, []⟩,
  ⟨⟨.build [(.int .i64 (.ofNat 0)), .nils] [(0, 1, (.const (.int .i64 (.ofNat 4)))), (1, 1, (.slot 6))], some 7, none⟩, []⟩,
  ⟨⟨.call (.const (.func 12 [] [])) [(.slot 7)], some 8, none⟩, []⟩,
  ⟨⟨.mv (.slot 8), some 5, none⟩, []⟩,
  ⟨⟨.extract (.slot 5) 0, some 9, none⟩, []⟩,
  ⟨⟨.extract (.slot 5) 1, some 10, none⟩, []⟩,
  ⟨⟨.mv (.slot 9), some 3, none⟩, []⟩,
  ⟨⟨.mv (.slot 10), some 4, none⟩, []⟩]
def r4_2 : List XLine := [⟨⟨.mv (.slot 3), some 11, none⟩, []⟩,
  ⟨⟨.mv (.slot 11), some 2, none⟩, []⟩]
def xf4 : XFunc := ⟨(.seq (.region false r4_0)
  (.seq (.region false r4_1)
  (.seq (.region false r4_2)
  .ret))),
  [.tmp 2]⟩
theorem xf4_ok : compFunc Tryz.prog Tryz.f4 = some xf4 := by kernel_rfl
/- threshing/equal.Equals -/
def r5_0 : List XLine := [⟨⟨.mv (.const (.int .i64 (.ofNat 0))), some 4, none⟩, []⟩,
  ⟨⟨.mv (.const (.int .i64 (.ofNat 0))), some 5, none⟩, []⟩]
def r5_1 : List XLine := [⟨⟨.mv (.slot 0), some 21, none⟩, []⟩,
  ⟨⟨.bin .eql 22 .ptr (.slot 21) (.const .nilp), some 22, none⟩, []⟩,
  ⟨⟨.mv (.slot 22), some 20, none⟩, []⟩]
def r5_2 : List XLine := [⟨⟨.mv (.const (.int .i64 (.ofNat 0))), some 4, none⟩, []⟩,
  ⟨⟨.mv (.const (.int .i64 (.ofNat 1))), some 5, none⟩, []⟩]
def r5_3 : List XLine := [⟨⟨.mv (.slot 1), some 24, none⟩, []⟩,
  ⟨⟨.bin .lss 3 .num (.slot 24) (.const (.int .i64 (.ofNat 0))), some 25, none⟩, []⟩,
  ⟨⟨.mv (.slot 25), some 23, none⟩, []⟩]
def r5_4 : List XLine := [⟨⟨.mv (.const (.int .i64 (.ofNat 0))), some 4, none⟩, []⟩,
  ⟨⟨.mv (.const (.int .i64 (.ofNat 2))), some 5, none⟩, []⟩]
def r5_5 : List XLine := [⟨⟨.mv (.slot 0), some 27, none⟩, []⟩,
  ⟨⟨.call (.const (.func 13 [] [])) [(.slot 27), (.const .nils), (.const (.int .i64 (.ofNat 0)))], some 28, none⟩, []⟩,
  ⟨⟨.mv (.slot 28), some 26, none⟩, []⟩,
  ⟨⟨.extract (.slot 26) 0, some 29, none⟩, []⟩,
  ⟨⟨.extract (.slot 26) 1, some 30, none⟩, []⟩,
  ⟨⟨.alloc [.nils, .nils, (.int .i64 (.ofNat 0))], some 6, none⟩, []⟩,
  ⟨⟨.store 3 (.slot 6) (.slot 29), none, none⟩, []⟩,
  ⟨⟨.mv (.slot 30), some 7, none⟩, []⟩]
def r5_6 : List XLine := [⟨⟨.mv (.slot 7), some 31, none⟩, []⟩,
  ⟨⟨.bin .neq 27 .num (.slot 31) (.const (.int .i64 (.ofNat 0))), some 32, none⟩, []⟩,
  ⟨⟨.mv (.slot 32), some 33, none⟩, []⟩,
  ⟨⟨.faddr 2 (.slot 6), some 34, some (33, false)⟩, []⟩,
  ⟨⟨.load false 1 (.slot 34), some 35, some (33, false)⟩, []⟩,
  ⟨⟨.bin .neq 2 .num (.slot 35) (.const (.int .i64 (.ofNat 0))), some 36, some (33, false)⟩, []⟩,
  ⟨⟨.pick (.slot 33) (.const (.bool true)) (.slot 36), some 37, none⟩, []⟩,
  ⟨⟨.mv (.slot 37), some 38, none⟩, []⟩,
  ⟨⟨.mv (.slot 1), some 39, some (38, false)⟩, []⟩,
  ⟨⟨.bin .eql 3 .num (.slot 39) (.const (.int .i64 (.ofNat 0))), some 40, some (38, false)⟩, []⟩,
  ⟨⟨.pick (.slot 38) (.const (.bool true)) (.slot 40), some 41, none⟩, []⟩]
def r5_7 : List XLine := [⟨⟨.mv (.slot 7), some 42, none⟩, []⟩,
  ⟨⟨.mv (.const (.int .i64 (.ofNat 0))), some 4, none⟩, []⟩,
  ⟨⟨.mv (.slot 42), some 5, none⟩, []⟩]
def r5_8 : List XLine := [⟨⟨.mkmap .i32, some 43, none⟩, []⟩,
  ⟨⟨.mv (.slot 43), some 8, none⟩, []⟩,
  ⟨⟨.mv (.const (.int .i32 (.ofNat 0))), some 9, none⟩, []⟩]
def r5_9 : List XLine := [⟨⟨.mv (.slot 0), some 44, none⟩, []⟩,
  ⟨⟨.call (.const (.func 14 [] [])) [(.slot 44)], some 45, none⟩, []⟩,
  ⟨⟨.mv (.slot 0), some 46, none⟩, []⟩,
  ⟨⟨.call (.const (.func 16 [] [])) [(.slot 46)], some 47, none⟩, []⟩,
  ⟨⟨.call (.const (.func 15 [] [])) [(.slot 45), (.slot 47)], some 48, none⟩, []⟩,
  ⟨⟨.len .slice (.slot 48), some 49, none⟩, []⟩,
  ⟨⟨.mv (.const (.int .i64 (.ofNat 0))), some 50, none⟩, []⟩]
def r5_10 : List XLine := [⟨⟨.bin .lss 3 .num (.slot 50) (.slot 49), some 51, none⟩, []⟩]
def r5_11 : List XLine := [⟨⟨.iaddr 1 (.slot 48) (.slot 50), some 52, none⟩, []⟩,
  ⟨⟨.load false 1 (.slot 52), some 53, none⟩, []⟩,
  ⟨⟨.mv (.slot 53), some 11, none⟩, []⟩]
def r5_12 : List XLine := [⟨⟨.mv (.slot 11), some 54, none⟩, []⟩,
  ⟨⟨.call (.const (.func 17 [] [])) [(.slot 54), (.const (.func 18 [] []))], some 55, none⟩, []⟩,
  ⟨⟨.mv (.slot 55), some 12, none⟩, []⟩]
def r5_13 : List XLine := [⟨⟨.mv (.slot 11), some 56, none⟩, []⟩,
  ⟨⟨.len .slice (.slot 56), some 57, none⟩, []⟩,
  ⟨⟨.mv (.const (.int .i64 (.ofNat 0))), some 58, none⟩, []⟩]
def r5_14 : List XLine := [⟨⟨.bin .lss 3 .num (.slot 58) (.slot 57), some 59, none⟩, []⟩]
def r5_15 : List XLine := [⟨⟨.iaddr 1 (.slot 56) (.slot 58), some 60, none⟩, []⟩,
  ⟨⟨.load false 1 (.slot 60), some 61, none⟩, []⟩,
  ⟨⟨.mv (.slot 61), some 14, none⟩, []⟩]
def r5_16 : List XLine := [⟨⟨.mv (.slot 8), some 62, none⟩, []⟩,
  ⟨⟨.mv (.slot 14), some 63, none⟩, []⟩,
  ⟨⟨.mv (.slot 12), some 64, none⟩, []⟩,
  ⟨⟨.mapup .i32 (.slot 62) (.slot 63) (.slot 64), none, none⟩, []⟩]
def r5_17 : List XLine := [⟨⟨.mv (.slot 14), some 65, none⟩, []⟩,
  ⟨⟨.call (.const (.func 19 [] [])) [(.slot 65)], some 66, none⟩, []⟩,
  ⟨⟨.conv .i32 (.slot 66), some 67, none⟩, []⟩,
  ⟨⟨.mv (.slot 67), some 15, none⟩, []⟩]
def r5_18 : List XLine := [⟨⟨.mv (.slot 11), some 68, none⟩, []⟩,
  ⟨⟨.mv (.slot 14), some 69, none⟩, []⟩,
  ⟨⟨.un .neg (.slot 69), some 70, none⟩, []⟩,
  ⟨⟨.call (.const (.func 20 [] [])) [(.slot 68), (.slot 70)], some 71, none⟩, []⟩,
  ⟨⟨.mv (.slot 71), some 72, none⟩, []⟩,
  ⟨⟨.mv (.slot 9), some 73, some (72, true)⟩, []⟩,
  ⟨⟨.bin .eql 24 .num (.slot 73) (.const (.int .i32 (.ofNat 0))), some 74, some (72, true)⟩, []⟩,
  ⟨⟨.mv (.slot 74), some 75, some (72, true)⟩, []⟩,
  ⟨⟨.mv (.slot 15), some 76, some (75, false)⟩, []⟩,
  ⟨⟨.mv (.slot 9), some 77, some (75, false)⟩, []⟩,
  ⟨⟨.bin .lss 24 .num (.slot 76) (.slot 77), some 78, some (75, false)⟩, []⟩,
  ⟨⟨.pick (.slot 75) (.const (.bool true)) (.slot 78), some 79, some (72, true)⟩, []⟩,
  ⟨⟨.pick (.slot 72) (.slot 79) (.const (.bool false)), some 80, none⟩, []⟩]
def r5_19 : List XLine := [⟨⟨.mv (.slot 15), some 81, none⟩, []⟩,
  ⟨⟨.mv (.slot 81), some 9, none⟩, []⟩]
def r5_20 : List XLine := [⟨⟨.bin .add 3 .num (.slot 58) (.const (.int .i64 (.ofNat 1))), some 82, none⟩, []⟩,
  ⟨⟨.mv (.slot 82), some 58, none⟩, []⟩]
def r5_21 : List XLine := [⟨⟨.bin .add 3 .num (.slot 50) (.const (.int .i64 (.ofNat 1))), some 83, none⟩, []⟩,
  ⟨⟨.mv (.slot 83), some 50, none⟩, []⟩]
def r5_22 : List XLine := [⟨⟨.mv (.slot 9), some 84, none⟩, []⟩,
  ⟨⟨.bin .neq 24 .num (.slot 84) (.const (.int .i32 (.ofNat 0))), some 85, none⟩, []⟩]
def r5_23 : List XLine := [⟨⟨.mv (.slot 0), some 86, none⟩, []⟩,
  ⟨⟨.mv (.slot 9), some 87, none⟩, []⟩,
  ⟨⟨.call (.const (.func 21 [] [])) [(.slot 86), (.slot 87)], some 88, none⟩, []⟩,
  ⟨⟨.mv (.slot 88), some 16, none⟩, []⟩]
def r5_24 : List XLine := [⟨⟨.mv (.slot 16), some 89, none⟩, []⟩,
  ⟨⟨.bin .neq 27 .num (.slot 89) (.const (.int .i64 (.ofNat 0))), some 90, none⟩, []⟩]
def r5_25 : List XLine := [⟨⟨.mv (.slot 16), some 91, none⟩, []⟩,
  ⟨⟨.mv (.const (.int .i64 (.ofNat 0))), some 4, none⟩, []⟩,
  ⟨⟨.mv (.slot 91), some 5, none⟩, []⟩]
def r5_26 : List XLine := [⟨⟨.mv (.const (.int .i64 (.ofNat 1))), some 4, none⟩, []⟩,
  ⟨⟨.mv (.const (.int .i64 (.ofNat 0))), some 5, none⟩, []⟩]
def r5_27 : List XLine := [⟨⟨.mv (.const (.int .i64 (.ofNat 0))), some 17, none⟩, []⟩]
def r5_28 : List XLine := [⟨⟨.mv (.const (.int .i32 (.ofNat 1))), some 18, none⟩, []⟩]
def r5_29 : List XLine := [⟨⟨.mv (.slot 18), some 92, none⟩, []⟩,
  ⟨⟨.conv .i64 (.slot 92), some 93, none⟩, []⟩,
  ⟨⟨.mv (.slot 0), some 94, none⟩, []⟩,
  ⟨⟨.call (.const (.func 16 [] [])) [(.slot 94)], some 95, none⟩, []⟩,
  ⟨⟨.bin .leq 3 .num (.slot 93) (.slot 95), some 96, none⟩, []⟩,
  ⟨⟨.mv (.slot 96), some 97, none⟩, []⟩,
  ⟨⟨.mv (.slot 17), some 98, some (97, true)⟩, []⟩,
  ⟨⟨.mv (.slot 1), some 99, some (97, true)⟩, []⟩,
  ⟨⟨.bin .lss 3 .num (.slot 98) (.slot 99), some 100, some (97, true)⟩, []⟩,
  ⟨⟨.pick (.slot 97) (.slot 100) (.const (.bool false)), some 101, none⟩, []⟩]
def r5_30 : List XLine := [⟨⟨.mv (.slot 8), some 104, none⟩, []⟩,
  ⟨⟨.mv (.slot 18), some 105, none⟩, []⟩,
  ⟨⟨.lookup .i32 (.int .i32 (.ofNat 0)) (.slot 104) (.slot 105) false, some 106, none⟩, []⟩,
  ⟨⟨.mv (.slot 18), some 107, none⟩, []⟩,
  ⟨⟨.bin .eql 24 .num (.slot 106) (.slot 107), some 108, none⟩, []⟩]
def r5_31 : List XLine := [⟨⟨.mv (.slot 0), some 109, none⟩, []⟩,
  ⟨⟨.mv (.slot 18), some 110, none⟩, []⟩,
  ⟨⟨.mv (.slot 8), some 111, none⟩, []⟩,
  ⟨⟨.mv (.slot 18), some 112, none⟩, []⟩,
  ⟨⟨.lookup .i32 (.int .i32 (.ofNat 0)) (.slot 111) (.slot 112) false, some 113, none⟩, []⟩,
  ⟨⟨.call (.const (.func 22 [] [])) [(.slot 109), (.slot 110), (.slot 113)], some 114, none⟩, []⟩,
  ⟨⟨.mv (.slot 114), some 19, none⟩, []⟩]
def r5_32 : List XLine := [⟨⟨.mv (.slot 19), some 115, none⟩, []⟩,
  ⟨⟨.bin .neq 27 .num (.slot 115) (.const (.int .i64 (.ofNat 0))), some 116, none⟩, []⟩]
def r5_33 : List XLine := [⟨⟨.mv (.slot 17), some 117, none⟩, []⟩,
  ⟨⟨.mv (.slot 19), some 118, none⟩, []⟩,
  ⟨⟨.mv (.slot 117), some 4, none⟩, []⟩,
  ⟨⟨.mv (.slot 118), some 5, none⟩, []⟩]
def r5_34 : List XLine := [⟨⟨.mv (.slot 17), some 119, none⟩, []⟩,
  ⟨⟨.bin .add 3 .num (.slot 119) (.const (.int .i64 (.ofNat 1))), some 120, none⟩, []⟩,
  ⟨⟨.mv (.slot 120), some 17, none⟩, []⟩]
def r5_35 : List XLine := [⟨⟨.mv (.slot 18), some 102, none⟩, []⟩,
  ⟨⟨.bin .add 24 .num (.slot 102) (.const (.int .i32 (.ofNat 1))), some 103, none⟩, []⟩,
  ⟨⟨.mv (.slot 103), some 18, none⟩, []⟩]
def r5_36 : List XLine := [⟨⟨.mv (.slot 17), some 121, none⟩, []⟩,
  ⟨⟨.mv (.slot 121), some 4, none⟩, []⟩,
  ⟨⟨.mv (.const (.int .i64 (.ofNat 0))), some 5, none⟩, []⟩]
def xf5 : XFunc := ⟨(.seq (.region false r5_0)
  (.seq (.block 0 (.seq (.region false r5_1)
  (.cond (.slot 20)
  (.seq (.region false r5_2)
  .ret)
  (.seq (.region false r5_3)
  (.cond (.slot 23)
  (.seq (.region false r5_4)
  .ret)
  .skip)))))
  (.seq (.seq (.region false r5_5)
  (.seq (.region false r5_6)
  (.cond (.slot 41)
  (.seq (.region false r5_7)
  .ret)
  .skip)))
  (.seq (.region false r5_8)
  (.seq (.seq (.region false r5_9)
  (.block 1 (.loop (.seq (.region false r5_10)
  (.seq (.cond (.slot 51)
  .skip
  (.exit 1))
  (.seq (.block 2 (.seq (.region false r5_11)
  (.seq (.region false r5_12)
  (.seq (.region false r5_13)
  (.block 3 (.loop (.seq (.region false r5_14)
  (.seq (.cond (.slot 59)
  .skip
  (.exit 3))
  (.seq (.block 4 (.seq (.region false r5_15)
  (.seq (.region false r5_16)
  (.seq (.region false r5_17)
  (.seq (.region false r5_18)
  (.cond (.slot 80)
  (.region false r5_19)
  .skip))))))
  (.region false r5_20))))))))))
  (.region false r5_21)))))))
  (.seq (.seq (.region false r5_22)
  (.cond (.slot 85)
  (.seq (.seq (.region false r5_23)
  (.seq (.region false r5_24)
  (.cond (.slot 90)
  (.seq (.region false r5_25)
  .ret)
  .skip)))
  (.seq (.region false r5_26)
  .ret))
  .skip))
  (.seq (.region false r5_27)
  (.seq (.seq (.region false r5_28)
  (.block 5 (.loop (.seq (.seq (.region false r5_29)
  (.cond (.slot 101)
  .skip
  (.exit 5)))
  (.seq (.block 6 (.seq (.seq (.region false r5_30)
  (.cond (.slot 108)
  (.exit 6)
  .skip))
  (.seq (.seq (.region false r5_31)
  (.seq (.region false r5_32)
  (.cond (.slot 116)
  (.seq (.region false r5_33)
  .ret)
  .skip)))
  (.region false r5_34))))
  (.region false r5_35))))))
  (.seq (.region false r5_36)
  .ret))))))))),
  [.tmp 4, .tmp 5]⟩
theorem xf5_ok : compFunc Tryz.prog Tryz.f5 = some xf5 := by kernel_rfl
/- (*threshing/base.Base).Get -/
def r6_0 : List XLine := [⟨⟨.alloc [(.int .i64 (.ofNat 0)), .nils, (.bool false)], some 4, none⟩, []⟩,
  ⟨⟨.mv (.const (.bool false)), some 5, none⟩, []⟩]
def r6_1 : List XLine := [⟨⟨.mv (.slot 0), some 8, none⟩, []⟩,
  ⟨⟨.bin .eql 22 .ptr (.slot 8) (.const .nilp), some 9, none⟩, []⟩]
def r6_2 : List XLine := [⟨⟨.build [(.int .i64 (.ofNat 0)), .nils, (.bool false)] [], some 10, none⟩, []⟩,
  ⟨⟨.store 3 (.slot 4) (.slot 10), none, none⟩, []⟩,
  ⟨⟨.mv (.const (.bool false)), some 5, none⟩, []⟩]
def r6_3 : List XLine := [⟨⟨.mv (.slot 0), some 12, none⟩, []⟩,
  ⟨⟨.nilCheck (.slot 12), some 13, none⟩, []⟩,
  ⟨⟨.faddr 1 (.slot 13), some 14, none⟩, []⟩,
  ⟨⟨.load false 1 (.slot 14), some 15, none⟩, []⟩,
  ⟨⟨.mv (.slot 1), some 16, none⟩, []⟩,
  ⟨⟨.lookup .i64 (.agg [(.int .i64 (.ofNat 0)), .nils, (.bool false)]) (.slot 15) (.slot 16) true, some 17, none⟩, []⟩,
  ⟨⟨.mv (.slot 17), some 11, none⟩, []⟩,
  ⟨⟨.extract (.slot 11) 0, some 18, none⟩, []⟩,
  ⟨⟨.extract (.slot 11) 1, some 19, none⟩, []⟩,
  ⟨⟨.alloc [(.int .i64 (.ofNat 0)), .nils, (.bool false)], some 6, none⟩, []⟩,
  ⟨⟨.store 3 (.slot 6) (.slot 18), none, none⟩, []⟩,
  ⟨⟨.mv (.slot 19), some 7, none⟩, []⟩]
def r6_4 : List XLine := [⟨⟨.load true 3 (.slot 6), some 20, none⟩, []⟩,
  ⟨⟨.call (.const (.func 23 [] [])) [(.slot 20)], some 21, none⟩, []⟩,
  ⟨⟨.mv (.slot 7), some 22, none⟩, []⟩,
  ⟨⟨.store 3 (.slot 4) (.slot 21), none, none⟩, []⟩,
  ⟨⟨.mv (.slot 22), some 5, none⟩, []⟩]
def xf6 : XFunc := ⟨(.seq (.region false r6_0)
  (.seq (.seq (.region false r6_1)
  (.cond (.slot 9)
  (.seq (.region false r6_2)
  .ret)
  .skip))
  (.seq (.region false r6_3)
  (.seq (.region false r6_4)
  .ret)))),
  [.cell 4 true 3, .tmp 5]⟩
theorem xf6_ok : compFunc Tryz.prog Tryz.f6 = some xf6 := by kernel_rfl
/- (*threshing/base.Base).Empty -/
def r7_0 : List XLine := [⟨⟨.mv (.const (.int .i64 (.ofNat 0))), some 2, none⟩, []⟩,
  ⟨⟨.mv (.const (.bool false)), some 3, none⟩, []⟩]
def r7_1 : List XLine := [⟨⟨.mv (.slot 0), some 4, none⟩, []⟩,
  ⟨⟨.bin .eql 22 .ptr (.slot 4) (.const .nilp), some 5, none⟩, []⟩,
  ⟨⟨.mv (.slot 5), some 6, none⟩, []⟩,
  ⟨⟨.mv (.slot 0), some 7, some (6, false)⟩, []⟩,
  ⟨⟨.nilCheck (.slot 7), some 8, some (6, false)⟩, []⟩,
  ⟨⟨.faddr 3 (.slot 8), some 9, some (6, false)⟩, []⟩,
  ⟨⟨.load false 1 (.slot 9), some 10, some (6, false)⟩, []⟩,
  ⟨⟨.len .map (.slot 10), some 11, some (6, false)⟩, []⟩,
  ⟨⟨.bin .eql 3 .num (.slot 11) (.const (.int .i64 (.ofNat 0))), some 12, some (6, false)⟩, []⟩,
  ⟨⟨.pick (.slot 6) (.const (.bool true)) (.slot 12), some 13, none⟩, []⟩]
def r7_2 : List XLine := [⟨⟨.mv (.const (.int .i64 (.ofNat 0))), some 2, none⟩, []⟩,
  ⟨⟨.mv (.const (.bool false)), some 3, none⟩, []⟩]
def r7_3 : List XLine := [⟨⟨.mv (.slot 0), some 14, none⟩, []⟩,
  ⟨⟨.nilCheck (.slot 14), some 15, none⟩, []⟩,
  ⟨⟨.faddr 3 (.slot 15), some 16, none⟩, []⟩,
  ⟨⟨.load false 1 (.slot 16), some 17, none⟩, []⟩,
  ⟨⟨.call (.const (.func 26 [] [])) [(.slot 17)], some 18, none⟩, []⟩,
  ⟨⟨.call (.const (.func 25 [] [])) [(.slot 18)], some 19, none⟩, []⟩,
  ⟨⟨.call (.const (.func 24 [] [])) [(.slot 19)], some 20, none⟩, []⟩,
  ⟨⟨.mv (.slot 20), some 2, none⟩, []⟩,
  ⟨⟨.mv (.const (.bool true)), some 3, none⟩, []⟩]
def xf7 : XFunc := ⟨(.seq (.region false r7_0)
  (.seq (.seq (.region false r7_1)
  (.cond (.slot 13)
  (.seq (.region false r7_2)
  .ret)
  .skip))
  (.seq (.region false r7_3)
  .ret))),
  [.tmp 2, .tmp 3]⟩
theorem xf7_ok : compFunc Tryz.prog Tryz.f7 = some xf7 := by kernel_rfl
/- threshing/threshingkit.SameClause -/
def r8_0 : List XLine := [⟨⟨.mv (.const (.bool false)), some 4, none⟩, []⟩]
def r8_1 : List XLine := [⟨⟨.mv (.slot 0), some 6, none⟩, []⟩,
  ⟨⟨.len .slice (.slot 6), some 7, none⟩, []⟩,
  ⟨⟨.mv (.slot 1), some 8, none⟩, []⟩,
  ⟨⟨.len .slice (.slot 8), some 9, none⟩, []⟩,
  ⟨⟨.bin .neq 3 .num (.slot 7) (.slot 9), some 10, none⟩, []⟩]
def r8_2 : List XLine := [⟨⟨.mv (.const (.bool false)), some 4, none⟩, []⟩]
def r8_3 : List XLine := [⟨⟨.mv (.const (.int .i64 (.ofNat 0))), some 5, none⟩, []⟩]
def r8_4 : List XLine := [⟨⟨.mv (.slot 5), some 11, none⟩, []⟩,
  ⟨⟨.mv (.slot 0), some 12, none⟩, []⟩,
  ⟨⟨.len .slice (.slot 12), some 13, none⟩, []⟩,
  ⟨⟨.bin .lss 3 .num (.slot 11) (.slot 13), some 14, none⟩, []⟩]
def r8_5 : List XLine := [⟨⟨.mv (.slot 0), some 17, none⟩, []⟩,
  ⟨⟨.mv (.slot 5), some 18, none⟩, []⟩,
  ⟨⟨.iaddr 1 (.slot 17) (.slot 18), some 19, none⟩, []⟩,
  ⟨⟨.load false 1 (.slot 19), some 20, none⟩, []⟩,
  ⟨⟨.mv (.slot 1), some 21, none⟩, []⟩,
  ⟨⟨.mv (.slot 5), some 22, none⟩, []⟩,
  ⟨⟨.iaddr 1 (.slot 21) (.slot 22), some 23, none⟩, []⟩,
  ⟨⟨.load false 1 (.slot 23), some 24, none⟩, []⟩,
  ⟨⟨.bin .neq 24 .num (.slot 20) (.slot 24), some 25, none⟩, []⟩]
def r8_6 : List XLine := [⟨⟨.mv (.const (.bool false)), some 4, none⟩, []⟩]
def r8_7 : List XLine := [⟨⟨.mv (.slot 5), some 15, none⟩, []⟩,
  ⟨⟨.bin .add 3 .num (.slot 15) (.const (.int .i64 (.ofNat 1))), some 16, none⟩, []⟩,
  ⟨⟨.mv (.slot 16), some 5, none⟩, []⟩]
def r8_8 : List XLine := [⟨⟨.mv (.const (.bool true)), some 4, none⟩, []⟩]
def xf8 : XFunc := ⟨(.seq (.region false r8_0)
  (.seq (.seq (.region false r8_1)
  (.cond (.slot 10)
  (.seq (.region false r8_2)
  .ret)
  .skip))
  (.seq (.seq (.region false r8_3)
  (.block 0 (.loop (.seq (.seq (.region false r8_4)
  (.cond (.slot 14)
  .skip
  (.exit 0)))
  (.seq (.block 1 (.seq (.region true r8_5)
  (.cond (.slot 25)
  (.seq (.region false r8_6)
  .ret)
  .skip)))
  (.region false r8_7))))))
  (.seq (.region false r8_8)
  .ret)))),
  [.tmp 4]⟩
theorem xf8_ok : compFunc Tryz.prog Tryz.f8 = some xf8 := by kernel_rfl
/- (*threshing/base.Base).Occurs -/
def r9_0 : List XLine := [⟨⟨.mv (.const .nils), some 4, none⟩, []⟩]
def r9_1 : List XLine := [⟨⟨.mv (.slot 0), some 5, none⟩, []⟩,
  ⟨⟨.bin .eql 22 .ptr (.slot 5) (.const .nilp), some 6, none⟩, []⟩]
def r9_2 : List XLine := [⟨⟨.mv (.const .nils), some 4, none⟩, []⟩]
def r9_3 : List XLine := [⟨⟨.mv (.slot 0), some 7, none⟩, []⟩,
  ⟨⟨.nilCheck (.slot 7), some 8, none⟩, []⟩,
  ⟨⟨.faddr 2 (.slot 8), some 9, none⟩, []⟩,
  ⟨⟨.load false 1 (.slot 9), some 10, none⟩, []⟩,
  ⟨⟨.mv (.slot 1), some 11, none⟩, []⟩,
  ⟨⟨.lookup .i32 .nilm (.slot 10) (.slot 11) false, some 12, none⟩, []⟩,
  ⟨⟨.call (.const (.func 26 [] [])) [(.slot 12)], some 13, none⟩, []⟩,
  ⟨⟨.call (.const (.func 27 [] [])) [(.slot 13)], some 14, none⟩, []⟩,
  ⟨⟨.mv (.slot 14), some 4, none⟩, []⟩]
def xf9 : XFunc := ⟨(.seq (.region false r9_0)
  (.seq (.seq (.region false r9_1)
  (.cond (.slot 6)
  (.seq (.region false r9_2)
  .ret)
  .skip))
  (.seq (.region false r9_3)
  .ret))),
  [.tmp 4]⟩
theorem xf9_ok : compFunc Tryz.prog Tryz.f9 = some xf9 := by kernel_rfl
/- (*threshing/base.Base).Entries -/
def r10_0 : List XLine := [⟨⟨.mv (.const .nils), some 2, none⟩, []⟩]
def r10_1 : List XLine := [⟨⟨.mv (.slot 0), some 6, none⟩, []⟩,
  ⟨⟨.bin .eql 22 .ptr (.slot 6) (.const .nilp), some 7, none⟩, []⟩]
def r10_2 : List XLine := [⟨⟨.mv (.const .nils), some 2, none⟩, []⟩]
def r10_3 : List XLine := [⟨⟨.mv (.const .nils), some 3, none⟩, []⟩]
def r10_4 : List XLine := [⟨⟨.mv (.slot 0), some 8, none⟩, []⟩,
  ⟨⟨.nilCheck (.slot 8), some 9, none⟩, []⟩,
  ⟨⟨.faddr 1 (.slot 9), some 10, none⟩, []⟩,
  ⟨⟨.load false 1 (.slot 10), some 11, none⟩, []⟩,
  ⟨⟨.call (.const (.func 28 [] [])) [(.slot 11)], some 12, none⟩, []⟩,
  ⟨⟨.call (.const (.func 27 [] [])) [(.slot 12)], some 13, none⟩, []⟩,
  ⟨⟨.len .slice (.slot 13), some 14, none⟩, []⟩,
  ⟨⟨.mv (.const (.int .i64 (.ofNat 0))), some 15, none⟩, []⟩]
def r10_5 : List XLine := [⟨⟨.bin .lss 3 .num (.slot 15) (.slot 14), some 16, none⟩, []⟩]
def r10_6 : List XLine := [⟨⟨.iaddr 1 (.slot 13) (.slot 15), some 17, none⟩, []⟩,
  ⟨⟨.load false 1 (.slot 17), some 18, none⟩, []⟩,
  ⟨⟨.mv (.slot 18), some 5, none⟩, []⟩]
def r10_7 : List XLine := [⟨⟨.mv (.slot 3), some 19, none⟩, []⟩,
  ⟨⟨.mv (.slot 0), some 20, none⟩, []⟩,
  ⟨⟨.nilCheck (.slot 20), some 21, none⟩, []⟩,
  ⟨⟨.faddr 1 (.slot 21), some 22, none⟩, []⟩,
  ⟨⟨.load false 1 (.slot 22), some 23, none⟩, []⟩,
  ⟨⟨.mv (.slot 5), some 24, none⟩, []⟩,
  ⟨⟨.lookup .i64 (.agg [(.int .i64 (.ofNat 0)), .nils, (.bool false)]) (.slot 23) (.slot 24) false, some 25, none⟩, []⟩,
  ⟨⟨.call (.const (.func 23 [] [])) [(.slot 25)], some 26, none⟩, []⟩,
  ⟨⟨.bslice 3 [(.int .i64 (.ofNat 0)), .nils, (.bool false)] [(0, 3, (.slot 26))] 1, some 27, none⟩, []⟩,
  ⟨⟨.append 3 40 (.slot 19) (.slot 27), some 28, none⟩, []⟩,
  ⟨⟨.mv (.slot 28), some 3, none⟩, []⟩]
def r10_8 : List XLine := [⟨⟨.bin .add 3 .num (.slot 15) (.const (.int .i64 (.ofNat 1))), some 29, none⟩, []⟩,
  ⟨⟨.mv (.slot 29), some 15, none⟩, []⟩]
def r10_9 : List XLine := [⟨⟨.mv (.slot 3), some 30, none⟩, []⟩,
  ⟨⟨.mv (.slot 30), some 2, none⟩, []⟩]
def xf10 : XFunc := ⟨(.seq (.region false r10_0)
  (.seq (.seq (.region false r10_1)
  (.cond (.slot 7)
  (.seq (.region false r10_2)
  .ret)
  .skip))
  (.seq (.region false r10_3)
  (.seq (.seq (.region false r10_4)
  (.block 0 (.loop (.seq (.region false r10_5)
  (.seq (.cond (.slot 16)
  .skip
  (.exit 0))
  (.seq (.block 1 (.seq (.region false r10_6)
  (.region false r10_7)))
  (.region false r10_8)))))))
  (.seq (.region false r10_9)
  .ret))))),
  [.tmp 2]⟩
theorem xf10_ok : compFunc Tryz.prog Tryz.f10 = some xf10 := by kernel_rfl
/- threshing/threshinglaw22.works -/
def r11_0 : List XLine := [⟨⟨.mv (.const (.bool false)), some 0, none⟩, []⟩]
def r11_1 : List XLine := [⟨⟨.bslice 1 [(.int .i32 (.ofNat 0)), (.int .i32 (.ofNat 0))] [(0, 1, (.const (.int .i32 (.negSucc 0)))), (1, 1, (.const (.int .i32 (.ofNat 2))))] 2, some 5, none⟩, []⟩,
  ⟨⟨.bslice 1 [(.int .i32 (.ofNat 0)), (.int .i32 (.ofNat 0))] [(0, 1, (.const (.int .i32 (.ofNat 1)))), (1, 1, (.const (.int .i32 (.negSucc 1))))] 2, some 6, none⟩, []⟩,
  ⟨⟨.bslice 1 [(.int .i32 (.ofNat 0)), (.int .i32 (.ofNat 0))] [(0, 1, (.const (.int .i32 (.ofNat 2)))), (1, 1, (.const (.int .i32 (.ofNat 3))))] 2, some 7, none⟩, []⟩,
  ⟨⟨.bslice 1 [(.int .i32 (.ofNat 0)), (.int .i32 (.ofNat 0)), (.int .i32 (.ofNat 0))] [(0, 1, (.const (.int .i32 (.negSucc 1)))), (1, 1, (.const (.int .i32 (.negSucc 2)))), (2, 1, (.const (.int .i32 (.ofNat 4))))] 3, some 8, none⟩, []⟩,
  ⟨⟨.bslice 1 [.nils, .nils, .nils, .nils] [(0, 1, (.slot 5)), (1, 1, (.slot 6)), (2, 1, (.slot 7)), (3, 1, (.slot 8))] 4, some 9, none⟩, []⟩,
  ⟨⟨.call (.const (.func 4 [] [])) [(.slot 9)], some 10, none⟩, []⟩,
  ⟨⟨.mv (.slot 10), some 1, none⟩, []⟩]
def r11_2 : List XLine := [⟨⟨.mv (.slot 1), some 12, none⟩, []⟩,
  ⟨⟨.call (.const (.func 5 [] [])) [(.slot 12), (.const (.int .i64 (.ofNat 9)))], some 13, none⟩, []⟩,
  ⟨⟨.mv (.slot 13), some 11, none⟩, []⟩,
  ⟨⟨.extract (.slot 11) 0, some 14, none⟩, []⟩,
  ⟨⟨.extract (.slot 11) 1, some 15, none⟩, []⟩,
  ⟨⟨.mv (.slot 14), some 2, none⟩, []⟩,
  ⟨⟨.mv (.slot 15), some 3, none⟩, []⟩]
def r11_3 : List XLine := [⟨⟨.mv (.slot 1), some 16, none⟩, []⟩,
  ⟨⟨.call (.const (.func 10 [] [])) [(.slot 16)], some 17, none⟩, []⟩,
  ⟨⟨.mv (.slot 17), some 4, none⟩, []⟩]
def r11_4 : List XLine := [⟨⟨.mv (.slot 2), some 18, none⟩, []⟩,
  ⟨⟨.bin .eql 3 .num (.slot 18) (.const (.int .i64 (.ofNat 1))), some 19, none⟩, []⟩,
  ⟨⟨.mv (.slot 19), some 20, none⟩, []⟩,
  ⟨⟨.mv (.slot 3), some 21, some (20, true)⟩, []⟩,
  ⟨⟨.bin .eql 27 .num (.slot 21) (.const (.int .i64 (.ofNat 0))), some 22, some (20, true)⟩, []⟩,
  ⟨⟨.pick (.slot 20) (.slot 22) (.const (.bool false)), some 23, none⟩, []⟩,
  ⟨⟨.mv (.slot 23), some 24, none⟩, []⟩,
  ⟨⟨.mv (.slot 4), some 25, some (24, true)⟩, []⟩,
  ⟨⟨.len .slice (.slot 25), some 26, some (24, true)⟩, []⟩,
  ⟨⟨.bin .eql 3 .num (.slot 26) (.const (.int .i64 (.ofNat 2))), some 27, some (24, true)⟩, []⟩,
  ⟨⟨.pick (.slot 24) (.slot 27) (.const (.bool false)), some 28, none⟩, []⟩,
  ⟨⟨.mv (.slot 28), some 29, none⟩, []⟩,
  ⟨⟨.mv (.slot 4), some 30, some (29, true)⟩, []⟩,
  ⟨⟨.iaddr 3 (.slot 30) (.const (.int .i64 (.ofNat 0))), some 31, some (29, true)⟩, []⟩,
  ⟨⟨.faddr 1 (.slot 31), some 32, some (29, true)⟩, []⟩,
  ⟨⟨.load false 1 (.slot 32), some 33, some (29, true)⟩, []⟩,
  ⟨⟨.bslice 1 [(.int .i32 (.ofNat 0)), (.int .i32 (.ofNat 0))] [(0, 1, (.const (.int .i32 (.ofNat 1)))), (1, 1, (.const (.int .i32 (.ofNat 3))))] 2, some 34, some (29, true)⟩, []⟩,
  ⟨⟨.call (.const (.func 8 [] [])) [(.slot 33), (.slot 34)], some 35, some (29, true)⟩, []⟩,
  ⟨⟨.pick (.slot 29) (.slot 35) (.const (.bool false)), some 36, none⟩, []⟩,
  ⟨⟨.mv (.slot 36), some 37, none⟩, []⟩,
  ⟨⟨.mv (.slot 4), some 38, some (37, true)⟩, []⟩,
  ⟨⟨.iaddr 3 (.slot 38) (.const (.int .i64 (.ofNat 1))), some 39, some (37, true)⟩, []⟩,
  ⟨⟨.faddr 1 (.slot 39), some 40, some (37, true)⟩, []⟩,
  ⟨⟨.load false 1 (.slot 40), some 41, some (37, true)⟩, []⟩,
  ⟨⟨.bslice 1 [(.int .i32 (.ofNat 0)), (.int .i32 (.ofNat 0)), (.int .i32 (.ofNat 0))] [(0, 1, (.const (.int .i32 (.negSucc 0)))), (1, 1, (.const (.int .i32 (.negSucc 2)))), (2, 1, (.const (.int .i32 (.ofNat 4))))] 3, some 42, some (37, true)⟩, []⟩,
  ⟨⟨.call (.const (.func 8 [] [])) [(.slot 41), (.slot 42)], some 43, some (37, true)⟩, []⟩,
  ⟨⟨.pick (.slot 37) (.slot 43) (.const (.bool false)), some 44, none⟩, []⟩,
  ⟨⟨.mv (.slot 44), some 45, none⟩, []⟩,
  ⟨⟨.mv (.slot 1), some 46, some (45, true)⟩, []⟩,
  ⟨⟨.call (.const (.func 29 [] [])) [(.slot 46)], some 47, some (45, true)⟩, []⟩,
  ⟨⟨.len .slice (.slot 47), some 48, some (45, true)⟩, []⟩,
  ⟨⟨.bin .eql 3 .num (.slot 48) (.const (.int .i64 (.ofNat 4))), some 49, some (45, true)⟩, []⟩,
  ⟨⟨.pick (.slot 45) (.slot 49) (.const (.bool false)), some 50, none⟩, []⟩,
  ⟨⟨.mv (.slot 50), some 0, none⟩, []⟩]
def xf11 : XFunc := ⟨(.seq (.region false r11_0)
  (.seq (.region false r11_1)
  (.seq (.region false r11_2)
  (.seq (.region false r11_3)
  (.seq (.region false r11_4)
  .ret))))),
  [.tmp 0]⟩
theorem xf11_ok : compFunc Tryz.prog Tryz.f11 = some xf11 := by kernel_rfl
/- threshing/base.New -/
def r12_0 : List XLine := [⟨⟨.box (.slot 0), some 1, none⟩, []⟩,
  ⟨⟨.mv (.const .nilp), some 2, none⟩, []⟩,
  ⟨⟨.mv (.const (.int .i64 (.ofNat 0))), some 3, none⟩, []⟩]
def r12_1 : List XLine := [⟨⟨.load true 2 (.slot 1), some 8, none⟩, []⟩,
  ⟨⟨.call (.const (.func 30 [] [])) [(.slot 8)], some 9, none⟩, []⟩,
  ⟨⟨.mv (.slot 9), some 4, none⟩, []⟩]
def r12_2 : List XLine := [⟨⟨.mv (.slot 4), some 10, none⟩, []⟩,
  ⟨⟨.bin .neq 27 .num (.slot 10) (.const (.int .i64 (.ofNat 0))), some 11, none⟩, []⟩]
def r12_3 : List XLine := [⟨⟨.mv (.slot 4), some 12, none⟩, []⟩,
  ⟨⟨.mv (.const .nilp), some 2, none⟩, []⟩,
  ⟨⟨.mv (.slot 12), some 3, none⟩, []⟩]
def r12_4 : List XLine := [⟨⟨.faddr 0 (.slot 1), some 13, none⟩, []⟩,
  ⟨⟨.load false 1 (.slot 13), some 14, none⟩, []⟩,
  ⟨⟨.mkmap .i64, some 15, none⟩, []⟩,
  ⟨⟨.mkmap .i32, some 16, none⟩, []⟩,
  ⟨⟨.mkmap .i64, some 17, none⟩, []⟩,
  ⟨⟨.build [(.int .i64 (.ofNat 0)), .nilm, .nilm, .nilm, (.int .i64 (.ofNat 0)), .nils, .nils, .nils] [(0, 1, (.slot 14)), (1, 1, (.slot 15)), (2, 1, (.slot 16)), (3, 1, (.slot 17))], some 18, none⟩, []⟩,
  ⟨⟨.box (.slot 18), some 19, none⟩, []⟩,
  ⟨⟨.mv (.slot 19), some 5, none⟩, []⟩]
def r12_5 : List XLine := [⟨⟨.faddr 1 (.slot 1), some 20, none⟩, []⟩,
  ⟨⟨.load false 1 (.slot 20), some 21, none⟩, []⟩,
  ⟨⟨.len .slice (.slot 21), some 22, none⟩, []⟩,
  ⟨⟨.mv (.const (.int .i64 (.ofNat 0))), some 23, none⟩, []⟩]
def r12_6 : List XLine := [⟨⟨.bin .lss 3 .num (.slot 23) (.slot 22), some 24, none⟩, []⟩]
def r12_7 : List XLine := [⟨⟨.iaddr 1 (.slot 21) (.slot 23), some 25, none⟩, []⟩,
  ⟨⟨.load false 1 (.slot 25), some 26, none⟩, []⟩,
  ⟨⟨.mv (.slot 26), some 7, none⟩, []⟩]
def r12_8 : List XLine := [⟨⟨.mv (.slot 5), some 27, none⟩, []⟩,
  ⟨⟨.mv (.slot 7), some 28, none⟩, []⟩,
  ⟨⟨.call (.const (.func 31 [] [])) [(.slot 27), (.slot 28), (.const (.bool false))], some 29, none⟩, []⟩]
def r12_9 : List XLine := [⟨⟨.bin .add 3 .num (.slot 23) (.const (.int .i64 (.ofNat 1))), some 30, none⟩, []⟩,
  ⟨⟨.mv (.slot 30), some 23, none⟩, []⟩]
def r12_10 : List XLine := [⟨⟨.mv (.slot 5), some 31, none⟩, []⟩,
  ⟨⟨.mv (.slot 31), some 2, none⟩, []⟩,
  ⟨⟨.mv (.const (.int .i64 (.ofNat 0))), some 3, none⟩, []⟩]
def xf12 : XFunc := ⟨(.seq (.region false r12_0)
  (.seq (.seq (.region false r12_1)
  (.seq (.region false r12_2)
  (.cond (.slot 11)
  (.seq (.region false r12_3)
  .ret)
  .skip)))
  (.seq (.region false r12_4)
  (.seq (.seq (.region false r12_5)
  (.block 0 (.loop (.seq (.region false r12_6)
  (.seq (.cond (.slot 24)
  .skip
  (.exit 0))
  (.seq (.block 1 (.seq (.region false r12_7)
  (.region false r12_8)))
  (.region false r12_9)))))))
  (.seq (.region false r12_10)
  .ret))))),
  [.tmp 2, .tmp 3]⟩
theorem xf12_ok : compFunc Tryz.prog Tryz.f12 = some xf12 := by kernel_rfl
/- threshing/unit.Propagate -/
def r13_0 : List XLine := [⟨⟨.alloc [.nils, .nils, (.int .i64 (.ofNat 0))], some 6, none⟩, []⟩,
  ⟨⟨.mv (.const (.int .i64 (.ofNat 0))), some 7, none⟩, []⟩]
def r13_1 : List XLine := [⟨⟨.mv (.slot 0), some 25, none⟩, []⟩,
  ⟨⟨.bin .eql 22 .ptr (.slot 25) (.const .nilp), some 26, none⟩, []⟩]
def r13_2 : List XLine := [⟨⟨.build [.nils, .nils, (.int .i64 (.ofNat 0))] [], some 27, none⟩, []⟩,
  ⟨⟨.store 3 (.slot 6) (.slot 27), none, none⟩, []⟩,
  ⟨⟨.mv (.const (.int .i64 (.ofNat 1))), some 7, none⟩, []⟩]
def r13_3 : List XLine := [⟨⟨.mv (.slot 1), some 28, none⟩, []⟩,
  ⟨⟨.len .slice (.slot 28), some 29, none⟩, []⟩,
  ⟨⟨.mv (.const (.int .i64 (.ofNat 0))), some 30, none⟩, []⟩]
def r13_4 : List XLine := [⟨⟨.bin .lss 3 .num (.slot 30) (.slot 29), some 31, none⟩, []⟩]
def r13_5 : List XLine := [⟨⟨.iaddr 1 (.slot 28) (.slot 30), some 32, none⟩, []⟩,
  ⟨⟨.load false 1 (.slot 32), some 33, none⟩, []⟩,
  ⟨⟨.mv (.slot 33), some 9, none⟩, []⟩]
def r13_6 : List XLine := [⟨⟨.mv (.slot 9), some 34, none⟩, []⟩,
  ⟨⟨.bin .eql 24 .num (.slot 34) (.const (.int .i32 (.ofNat 0))), some 35, none⟩, []⟩,
  ⟨⟨.mv (.slot 35), some 36, none⟩, []⟩,
  ⟨⟨.mv (.slot 9), some 37, some (36, false)⟩, []⟩,
  ⟨⟨.call (.const (.func 19 [] [])) [(.slot 37)], some 38, some (36, false)⟩, []⟩,
  ⟨⟨.mv (.slot 0), some 39, some (36, false)⟩, []⟩,
  ⟨⟨.call (.const (.func 16 [] [])) [(.slot 39)], some 40, some (36, false)⟩, []⟩,
  ⟨⟨.bin .gtr 3 .num (.slot 38) (.slot 40), some 41, some (36, false)⟩, []⟩,
  ⟨⟨.pick (.slot 36) (.const (.bool true)) (.slot 41), some 42, none⟩, []⟩]
def r13_7 : List XLine := [⟨⟨.build [.nils, .nils, (.int .i64 (.ofNat 0))] [], some 43, none⟩, []⟩,
  ⟨⟨.store 3 (.slot 6) (.slot 43), none, none⟩, []⟩,
  ⟨⟨.mv (.const (.int .i64 (.ofNat 4))), some 7, none⟩, []⟩]
def r13_8 : List XLine := [⟨⟨.bin .add 3 .num (.slot 30) (.const (.int .i64 (.ofNat 1))), some 44, none⟩, []⟩,
  ⟨⟨.mv (.slot 44), some 30, none⟩, []⟩]
def r13_9 : List XLine := [⟨⟨.mv (.slot 1), some 46, none⟩, []⟩,
  ⟨⟨.call (.const (.func 32 [] [])) [(.slot 46)], some 47, none⟩, []⟩,
  ⟨⟨.mv (.slot 47), some 45, none⟩, []⟩,
  ⟨⟨.extract (.slot 45) 0, some 48, none⟩, []⟩,
  ⟨⟨.extract (.slot 45) 1, some 49, none⟩, []⟩,
  ⟨⟨.mv (.slot 48), some 10, none⟩, []⟩,
  ⟨⟨.mv (.slot 49), some 11, none⟩, []⟩]
def r13_10 : List XLine := [⟨⟨.mv (.slot 11), some 50, none⟩, []⟩]
def r13_11 : List XLine := [⟨⟨.build [.nils, .nils, (.int .i64 (.ofNat 0))] [], some 51, none⟩, []⟩,
  ⟨⟨.store 3 (.slot 6) (.slot 51), none, none⟩, []⟩,
  ⟨⟨.mv (.const (.int .i64 (.ofNat 2))), some 7, none⟩, []⟩]
def r13_12 : List XLine := [⟨⟨.mkmap .i64, some 52, none⟩, []⟩,
  ⟨⟨.mkmap .i64, some 53, none⟩, []⟩,
  ⟨⟨.mkmap .i32, some 54, none⟩, []⟩,
  ⟨⟨.mkmap .i32, some 55, none⟩, []⟩,
  ⟨⟨.build [.nilm, .nilm, .nilm, .nilm, .nils] [(0, 1, (.slot 52)), (1, 1, (.slot 53)), (2, 1, (.slot 54)), (3, 1, (.slot 55)), (4, 1, (.const .nils))], some 56, none⟩, []⟩,
  ⟨⟨.box (.slot 56), some 57, none⟩, []⟩,
  ⟨⟨.mv (.slot 57), some 12, none⟩, []⟩]
def r13_13 : List XLine := [⟨⟨.mv (.slot 0), some 58, none⟩, []⟩,
  ⟨⟨.call (.const (.func 10 [] [])) [(.slot 58)], some 59, none⟩, []⟩,
  ⟨⟨.len .slice (.slot 59), some 60, none⟩, []⟩,
  ⟨⟨.mv (.const (.int .i64 (.ofNat 0))), some 61, none⟩, []⟩]
def r13_14 : List XLine := [⟨⟨.bin .lss 3 .num (.slot 61) (.slot 60), some 62, none⟩, []⟩]
def r13_15 : List XLine := [⟨⟨.iaddr 3 (.slot 59) (.slot 61), some 63, none⟩, []⟩,
  ⟨⟨.load true 3 (.slot 63), some 64, none⟩, []⟩,
  ⟨⟨.alloc [(.int .i64 (.ofNat 0)), .nils, (.bool false)], some 14, none⟩, []⟩,
  ⟨⟨.store 3 (.slot 14) (.slot 64), none, none⟩, []⟩]
def r13_16 : List XLine := [⟨⟨.faddr 0 (.slot 14), some 65, none⟩, []⟩,
  ⟨⟨.load false 1 (.slot 65), some 66, none⟩, []⟩,
  ⟨⟨.mv (.slot 2), some 67, none⟩, []⟩,
  ⟨⟨.bin .eql 2 .num (.slot 66) (.slot 67), some 68, none⟩, []⟩]
def r13_17 : List XLine := [⟨⟨.faddr 1 (.slot 14), some 70, none⟩, []⟩,
  ⟨⟨.load false 1 (.slot 70), some 71, none⟩, []⟩,
  ⟨⟨.call (.const (.func 32 [] [])) [(.slot 71)], some 72, none⟩, []⟩,
  ⟨⟨.mv (.slot 72), some 69, none⟩, []⟩,
  ⟨⟨.extract (.slot 69) 0, some 73, none⟩, []⟩,
  ⟨⟨.extract (.slot 69) 1, some 74, none⟩, []⟩,
  ⟨⟨.mv (.slot 73), some 15, none⟩, []⟩,
  ⟨⟨.mv (.slot 74), some 16, none⟩, []⟩]
def r13_18 : List XLine := [⟨⟨.mv (.slot 12), some 75, none⟩, []⟩,
  ⟨⟨.nilCheck (.slot 75), some 76, none⟩, []⟩,
  ⟨⟨.faddr 0 (.slot 76), some 77, none⟩, []⟩,
  ⟨⟨.load false 1 (.slot 77), some 78, none⟩, []⟩,
  ⟨⟨.faddr 0 (.slot 14), some 79, none⟩, []⟩,
  ⟨⟨.load false 1 (.slot 79), some 80, none⟩, []⟩,
  ⟨⟨.mv (.slot 12), some 81, none⟩, []⟩,
  ⟨⟨.nilCheck (.slot 81), some 82, none⟩, []⟩,
  ⟨⟨.faddr 1 (.slot 82), some 83, none⟩, []⟩,
  ⟨⟨.load false 1 (.slot 83), some 84, none⟩, []⟩,
  ⟨⟨.faddr 0 (.slot 14), some 85, none⟩, []⟩,
  ⟨⟨.load false 1 (.slot 85), some 86, none⟩, []⟩,
  ⟨⟨.mv (.slot 15), some 87, none⟩, []⟩,
  ⟨⟨.mv (.slot 15), some 88, none⟩, []⟩,
  ⟨⟨.len .slice (.slot 88), some 89, none⟩, []⟩,
  ⟨⟨.mentry .nils (.slot 78) (.slot 80), some 90, none⟩, [⟨.load false 1 (.slot 85), some 86, none⟩, ⟨.len .slice (.slot 88), some 89, none⟩]⟩,
  ⟨⟨.extract (.slot 90) 1, some 91, none⟩, []⟩,
  ⟨⟨.estore (.slot 78) (.slot 91) (.slot 87), none, none⟩, [⟨.load false 1 (.slot 85), some 86, none⟩, ⟨.len .slice (.slot 88), some 89, none⟩]⟩,
  ⟨⟨.mentry (.int .i64 (.ofNat 0)) (.slot 84) (.slot 86), some 92, none⟩, [⟨.len .slice (.slot 88), some 89, none⟩]⟩,
  ⟨⟨.extract (.slot 92) 1, some 93, none⟩, []⟩,
  ⟨⟨.estore (.slot 84) (.slot 93) (.slot 89), none, none⟩, []⟩]
def r13_19 : List XLine := [⟨⟨.mv (.slot 15), some 94, none⟩, []⟩,
  ⟨⟨.len .slice (.slot 94), some 95, none⟩, []⟩,
  ⟨⟨.mv (.const (.int .i64 (.ofNat 0))), some 96, none⟩, []⟩]
def r13_20 : List XLine := [⟨⟨.bin .lss 3 .num (.slot 96) (.slot 95), some 97, none⟩, []⟩]
def r13_21 : List XLine := [⟨⟨.iaddr 1 (.slot 94) (.slot 96), some 98, none⟩, []⟩,
  ⟨⟨.load false 1 (.slot 98), some 99, none⟩, []⟩,
  ⟨⟨.mv (.slot 99), some 18, none⟩, []⟩]
def r13_22 : List XLine := [⟨⟨.mv (.slot 12), some 100, none⟩, []⟩,
  ⟨⟨.nilCheck (.slot 100), some 101, none⟩, []⟩,
  ⟨⟨.faddr 2 (.slot 101), some 102, none⟩, []⟩,
  ⟨⟨.load false 1 (.slot 102), some 103, none⟩, []⟩,
  ⟨⟨.mv (.slot 18), some 104, none⟩, []⟩,
  ⟨⟨.mv (.slot 12), some 105, none⟩, []⟩,
  ⟨⟨.nilCheck (.slot 105), some 106, none⟩, []⟩,
  ⟨⟨.faddr 2 (.slot 106), some 107, none⟩, []⟩,
  ⟨⟨.load false 1 (.slot 107), some 108, none⟩, []⟩,
  ⟨⟨.mv (.slot 18), some 109, none⟩, []⟩,
  ⟨⟨.lookup .i32 .nils (.slot 108) (.slot 109) false, some 110, none⟩, []⟩,
  ⟨⟨.faddr 0 (.slot 14), some 111, none⟩, []⟩,
  ⟨⟨.load false 1 (.slot 111), some 112, none⟩, []⟩,
  ⟨⟨.bslice 1 [(.int .i64 (.ofNat 0))] [(0, 1, (.slot 112))] 1, some 113, none⟩, [⟨.load false 1 (.slot 102), some 103, none⟩, ⟨.load false 1 (.slot 107), some 108, none⟩, ⟨.lookup .i32 .nils (.slot 108) (.slot 109) false, some 110, none⟩]⟩,
  ⟨⟨.append 1 8 (.slot 110) (.slot 113), some 114, none⟩, [⟨.load false 1 (.slot 102), some 103, none⟩]⟩,
  ⟨⟨.mapup .i32 (.slot 103) (.slot 104) (.slot 114), none, none⟩, []⟩]
def r13_23 : List XLine := [⟨⟨.bin .add 3 .num (.slot 96) (.const (.int .i64 (.ofNat 1))), some 115, none⟩, []⟩,
  ⟨⟨.mv (.slot 115), some 96, none⟩, []⟩]
def r13_24 : List XLine := [⟨⟨.mv (.slot 15), some 116, none⟩, []⟩,
  ⟨⟨.len .slice (.slot 116), some 117, none⟩, []⟩,
  ⟨⟨.bin .leq 3 .num (.slot 117) (.const (.int .i64 (.ofNat 1))), some 118, none⟩, []⟩]
def r13_25 : List XLine := [⟨⟨.mv (.slot 12), some 119, none⟩, []⟩,
  ⟨⟨.mv (.slot 12), some 120, none⟩, []⟩,
  ⟨⟨.nilCheck (.slot 120), some 121, none⟩, []⟩,
  ⟨⟨.faddr 4 (.slot 121), some 122, none⟩, []⟩,
  ⟨⟨.load false 1 (.slot 122), some 123, none⟩, []⟩,
  ⟨⟨.faddr 0 (.slot 14), some 124, none⟩, []⟩,
  ⟨⟨.load false 1 (.slot 124), some 125, none⟩, []⟩,
  ⟨⟨.bslice 1 [(.int .i64 (.ofNat 0))] [(0, 1, (.slot 125))] 1, some 126, none⟩, [⟨.load false 1 (.slot 122), some 123, none⟩]⟩,
  ⟨⟨.append 1 8 (.slot 123) (.slot 126), some 127, none⟩, []⟩,
  ⟨⟨.nilCheck (.slot 119), some 128, none⟩, []⟩,
  ⟨⟨.faddr 4 (.slot 128), some 129, none⟩, []⟩,
  ⟨⟨.store 1 (.slot 129) (.slot 127), none, none⟩, []⟩]
def r13_26 : List XLine := [⟨⟨.bin .add 3 .num (.slot 61) (.const (.int .i64 (.ofNat 1))), some 130, none⟩, []⟩,
  ⟨⟨.mv (.slot 130), some 61, none⟩, []⟩]
def r13_27 : List XLine := [⟨⟨.mv (.slot 12), some 131, none⟩, []⟩,
  ⟨⟨.nilCheck (.slot 131), some 132, none⟩, []⟩,
  ⟨⟨.faddr 4 (.slot 132), some 133, none⟩, []⟩,
  ⟨⟨.mkif 93 (.slot 133), some 134, none⟩, []⟩,
  ⟨⟨.call (.const (.func 33 [] [])) [(.slot 134)], some 135, none⟩, []⟩]
def r13_28 : List XLine := [⟨⟨.alloc [.nils, .nils, (.int .i64 (.ofNat 0))], some 19, none⟩, []⟩]
def r13_29 : List XLine := [⟨⟨.mv (.slot 1), some 136, none⟩, []⟩,
  ⟨⟨.len .slice (.slot 136), some 137, none⟩, []⟩,
  ⟨⟨.mv (.const (.int .i64 (.ofNat 0))), some 138, none⟩, []⟩]
def r13_30 : List XLine := [⟨⟨.bin .lss 3 .num (.slot 138) (.slot 137), some 139, none⟩, []⟩]
def r13_31 : List XLine := [⟨⟨.iaddr 1 (.slot 136) (.slot 138), some 140, none⟩, []⟩,
  ⟨⟨.load false 1 (.slot 140), some 141, none⟩, []⟩,
  ⟨⟨.mv (.slot 141), some 21, none⟩, []⟩]
def r13_32 : List XLine := [⟨⟨.mv (.slot 12), some 142, none⟩, []⟩,
  ⟨⟨.nilCheck (.slot 142), some 143, none⟩, []⟩,
  ⟨⟨.faddr 3 (.slot 143), some 144, none⟩, []⟩,
  ⟨⟨.load false 1 (.slot 144), some 145, none⟩, []⟩,
  ⟨⟨.mv (.slot 21), some 146, none⟩, []⟩,
  ⟨⟨.lookup .i32 (.bool false) (.slot 145) (.slot 146) false, some 147, none⟩, []⟩,
  ⟨⟨.un .not (.slot 147), some 148, none⟩, []⟩]
def r13_33 : List XLine := [⟨⟨.faddr 0 (.slot 19), some 149, none⟩, []⟩,
  ⟨⟨.load false 1 (.slot 149), some 150, none⟩, []⟩,
  ⟨⟨.mv (.slot 21), some 151, none⟩, []⟩,
  ⟨⟨.bslice 1 [(.int .i32 (.ofNat 0))] [(0, 1, (.slot 151))] 1, some 152, none⟩, []⟩,
  ⟨⟨.append 1 4 (.slot 150) (.slot 152), some 153, none⟩, []⟩,
  ⟨⟨.faddr 0 (.slot 19), some 154, none⟩, []⟩,
  ⟨⟨.store 1 (.slot 154) (.slot 153), none, none⟩, []⟩]
def r13_34 : List XLine := [⟨⟨.mv (.slot 12), some 155, none⟩, []⟩,
  ⟨⟨.mv (.slot 21), some 156, none⟩, []⟩,
  ⟨⟨.call (.const (.func 34 [] [])) [(.slot 155), (.slot 156)], some 157, none⟩, []⟩]
def r13_35 : List XLine := [⟨⟨.bin .add 3 .num (.slot 138) (.const (.int .i64 (.ofNat 1))), some 158, none⟩, []⟩,
  ⟨⟨.mv (.slot 158), some 138, none⟩, []⟩]
def r13_36 : List XLine := [⟨⟨.mv (.slot 12), some 160, none⟩, []⟩,
  ⟨⟨.call (.const (.func 35 [] [])) [(.slot 160)], some 161, none⟩, []⟩,
  ⟨⟨.mv (.slot 161), some 159, none⟩, []⟩,
  ⟨⟨.extract (.slot 159) 0, some 162, none⟩, []⟩,
  ⟨⟨.extract (.slot 159) 1, some 163, none⟩, []⟩,
  ⟨⟨.extract (.slot 159) 2, some 164, none⟩, []⟩,
  ⟨⟨.mv (.slot 162), some 22, none⟩, []⟩,
  ⟨⟨.mv (.slot 163), some 23, none⟩, []⟩,
  ⟨⟨.mv (.slot 164), some 24, none⟩, []⟩]
def r13_37 : List XLine := [⟨⟨.mv (.slot 24), some 166, none⟩, []⟩,
  ⟨⟨.un .not (.slot 166), some 167, none⟩, []⟩,
  ⟨⟨.mv (.slot 167), some 165, none⟩, []⟩]
def r13_38 : List XLine := [⟨⟨.load true 3 (.slot 19), some 168, none⟩, []⟩,
  ⟨⟨.store 3 (.slot 6) (.slot 168), none, none⟩, []⟩,
  ⟨⟨.mv (.const (.int .i64 (.ofNat 0))), some 7, none⟩, []⟩]
def r13_39 : List XLine := [⟨⟨.mv (.slot 23), some 170, none⟩, []⟩,
  ⟨⟨.bin .eql 24 .num (.slot 170) (.const (.int .i32 (.ofNat 0))), some 171, none⟩, []⟩,
  ⟨⟨.mv (.slot 171), some 169, none⟩, []⟩]
def r13_40 : List XLine := [⟨⟨.mv (.slot 22), some 172, none⟩, []⟩,
  ⟨⟨.faddr 2 (.slot 19), some 173, none⟩, []⟩,
  ⟨⟨.store 1 (.slot 173) (.slot 172), none, none⟩, []⟩]
def r13_41 : List XLine := [⟨⟨.load true 3 (.slot 19), some 174, none⟩, []⟩,
  ⟨⟨.store 3 (.slot 6) (.slot 174), none, none⟩, []⟩,
  ⟨⟨.mv (.const (.int .i64 (.ofNat 0))), some 7, none⟩, []⟩]
def r13_42 : List XLine := [⟨⟨.faddr 0 (.slot 19), some 175, none⟩, []⟩,
  ⟨⟨.load false 1 (.slot 175), some 176, none⟩, []⟩,
  ⟨⟨.mv (.slot 23), some 177, none⟩, []⟩,
  ⟨⟨.faddr 1 (.slot 19), some 180, none⟩, []⟩,
  ⟨⟨.load false 1 (.slot 180), some 181, none⟩, []⟩,
  ⟨⟨.mv (.slot 22), some 182, none⟩, []⟩,
  ⟨⟨.bslice 1 [(.int .i32 (.ofNat 0))] [(0, 1, (.slot 177))] 1, some 178, none⟩, [⟨.load false 1 (.slot 175), some 176, none⟩, ⟨.load false 1 (.slot 180), some 181, none⟩]⟩,
  ⟨⟨.append 1 4 (.slot 176) (.slot 178), some 179, none⟩, [⟨.load false 1 (.slot 180), some 181, none⟩]⟩,
  ⟨⟨.faddr 0 (.slot 19), some 185, none⟩, []⟩,
  ⟨⟨.bslice 1 [(.int .i64 (.ofNat 0))] [(0, 1, (.slot 182))] 1, some 183, none⟩, [⟨.load false 1 (.slot 175), some 176, none⟩, ⟨.load false 1 (.slot 180), some 181, none⟩]⟩,
  ⟨⟨.append 1 8 (.slot 181) (.slot 183), some 184, none⟩, []⟩,
  ⟨⟨.store 1 (.slot 185) (.slot 179), none, none⟩, []⟩,
  ⟨⟨.faddr 1 (.slot 19), some 186, none⟩, []⟩,
  ⟨⟨.store 1 (.slot 186) (.slot 184), none, none⟩, []⟩]
def r13_43 : List XLine := [⟨⟨.mv (.slot 12), some 187, none⟩, []⟩,
  ⟨⟨.mv (.slot 23), some 188, none⟩, []⟩,
  ⟨⟨.call (.const (.func 34 [] [])) [(.slot 187), (.slot 188)], some 189, none⟩, []⟩]
def xf13 : XFunc := ⟨(.seq (.region false r13_0)
  (.seq (.seq (.region false r13_1)
  (.cond (.slot 26)
  (.seq (.region false r13_2)
  .ret)
  .skip))
  (.seq (.seq (.region false r13_3)
  (.block 0 (.loop (.seq (.region false r13_4)
  (.seq (.cond (.slot 31)
  .skip
  (.exit 0))
  (.seq (.block 1 (.seq (.region false r13_5)
  (.seq (.region false r13_6)
  (.cond (.slot 42)
  (.seq (.region false r13_7)
  .ret)
  .skip))))
  (.region false r13_8)))))))
  (.seq (.seq (.region false r13_9)
  (.seq (.region false r13_10)
  (.cond (.slot 50)
  (.seq (.region false r13_11)
  .ret)
  .skip)))
  (.seq (.region false r13_12)
  (.seq (.seq (.region false r13_13)
  (.block 2 (.loop (.seq (.region false r13_14)
  (.seq (.cond (.slot 62)
  .skip
  (.exit 2))
  (.seq (.block 3 (.seq (.region false r13_15)
  (.seq (.seq (.region false r13_16)
  (.cond (.slot 68)
  (.exit 3)
  .skip))
  (.seq (.region false r13_17)
  (.seq (.region true r13_18)
  (.seq (.seq (.region false r13_19)
  (.block 4 (.loop (.seq (.region false r13_20)
  (.seq (.cond (.slot 97)
  .skip
  (.exit 4))
  (.seq (.block 5 (.seq (.region false r13_21)
  (.region true r13_22)))
  (.region false r13_23)))))))
  (.seq (.region false r13_24)
  (.cond (.slot 118)
  (.region true r13_25)
  .skip))))))))
  (.region false r13_26)))))))
  (.seq (.region false r13_27)
  (.seq (.region false r13_28)
  (.seq (.seq (.region false r13_29)
  (.block 6 (.loop (.seq (.region false r13_30)
  (.seq (.cond (.slot 139)
  .skip
  (.exit 6))
  (.seq (.block 7 (.seq (.region false r13_31)
  (.seq (.region false r13_32)
  (.cond (.slot 148)
  (.seq (.region false r13_33)
  (.region false r13_34))
  .skip))))
  (.region false r13_35)))))))
  (.block 8 (.loop (.block 9 (.seq (.region false r13_36)
  (.seq (.block 10 (.seq (.region false r13_37)
  (.cond (.slot 165)
  (.seq (.region false r13_38)
  .ret)
  (.seq (.region false r13_39)
  (.cond (.slot 169)
  (.seq (.region false r13_40)
  (.seq (.region false r13_41)
  .ret))
  .skip)))))
  (.seq (.region true r13_42)
  (.region false r13_43)))))))))))))))),
  [.cell 6 true 3, .tmp 7]⟩
theorem xf13_ok : compFunc Tryz.prog Tryz.f13 = some xf13 := by kernel_rfl
/- threshing/equal.of -/
def r14_0 : List XLine := [⟨⟨.mv (.const .nilm), some 2, none⟩, []⟩]
def r14_1 : List XLine := [⟨⟨.mkmap .i32, some 8, none⟩, []⟩,
  ⟨⟨.mv (.slot 8), some 3, none⟩, []⟩]
def r14_2 : List XLine := [⟨⟨.mv (.slot 0), some 9, none⟩, []⟩,
  ⟨⟨.call (.const (.func 10 [] [])) [(.slot 9)], some 10, none⟩, []⟩,
  ⟨⟨.len .slice (.slot 10), some 11, none⟩, []⟩,
  ⟨⟨.mv (.const (.int .i64 (.ofNat 0))), some 12, none⟩, []⟩]
def r14_3 : List XLine := [⟨⟨.bin .lss 3 .num (.slot 12) (.slot 11), some 13, none⟩, []⟩]
def r14_4 : List XLine := [⟨⟨.iaddr 3 (.slot 10) (.slot 12), some 14, none⟩, []⟩,
  ⟨⟨.load true 3 (.slot 14), some 15, none⟩, []⟩,
  ⟨⟨.alloc [(.int .i64 (.ofNat 0)), .nils, (.bool false)], some 5, none⟩, []⟩,
  ⟨⟨.store 3 (.slot 5) (.slot 15), none, none⟩, []⟩]
def r14_5 : List XLine := [⟨⟨.faddr 1 (.slot 5), some 17, none⟩, []⟩,
  ⟨⟨.load false 1 (.slot 17), some 18, none⟩, []⟩,
  ⟨⟨.call (.const (.func 32 [] [])) [(.slot 18)], some 19, none⟩, []⟩,
  ⟨⟨.mv (.slot 19), some 16, none⟩, []⟩,
  ⟨⟨.extract (.slot 16) 0, some 20, none⟩, []⟩,
  ⟨⟨.extract (.slot 16) 1, some 21, none⟩, []⟩,
  ⟨⟨.mv (.slot 20), some 6, none⟩, []⟩,
  ⟨⟨.mv (.slot 21), some 7, none⟩, []⟩]
def r14_6 : List XLine := [⟨⟨.mv (.slot 6), some 22, none⟩, []⟩,
  ⟨⟨.len .slice (.slot 22), some 23, none⟩, []⟩,
  ⟨⟨.bin .eql 3 .num (.slot 23) (.const (.int .i64 (.ofNat 2))), some 24, none⟩, []⟩,
  ⟨⟨.mv (.slot 24), some 25, none⟩, []⟩,
  ⟨⟨.mv (.slot 7), some 26, some (25, true)⟩, []⟩,
  ⟨⟨.un .not (.slot 26), some 27, some (25, true)⟩, []⟩,
  ⟨⟨.pick (.slot 25) (.slot 27) (.const (.bool false)), some 28, none⟩, []⟩]
def r14_7 : List XLine := [⟨⟨.mv (.slot 3), some 29, none⟩, []⟩,
  ⟨⟨.mv (.slot 6), some 30, none⟩, []⟩,
  ⟨⟨.iaddr 1 (.slot 30) (.const (.int .i64 (.ofNat 0))), some 31, none⟩, []⟩,
  ⟨⟨.load false 1 (.slot 31), some 32, none⟩, []⟩,
  ⟨⟨.un .neg (.slot 32), some 33, none⟩, []⟩,
  ⟨⟨.mv (.slot 3), some 34, none⟩, []⟩,
  ⟨⟨.mv (.slot 6), some 35, none⟩, []⟩,
  ⟨⟨.iaddr 1 (.slot 35) (.const (.int .i64 (.ofNat 0))), some 36, none⟩, []⟩,
  ⟨⟨.load false 1 (.slot 36), some 37, none⟩, []⟩,
  ⟨⟨.un .neg (.slot 37), some 38, none⟩, []⟩,
  ⟨⟨.lookup .i32 .nils (.slot 34) (.slot 38) false, some 39, none⟩, []⟩,
  ⟨⟨.mv (.slot 6), some 40, none⟩, []⟩,
  ⟨⟨.iaddr 1 (.slot 40) (.const (.int .i64 (.ofNat 1))), some 41, none⟩, []⟩,
  ⟨⟨.load false 1 (.slot 41), some 42, none⟩, []⟩,
  ⟨⟨.bslice 1 [(.int .i32 (.ofNat 0))] [(0, 1, (.slot 42))] 1, some 43, none⟩, [⟨.load false 1 (.slot 31), some 32, none⟩, ⟨.load false 1 (.slot 36), some 37, none⟩, ⟨.lookup .i32 .nils (.slot 34) (.slot 38) false, some 39, none⟩]⟩,
  ⟨⟨.append 1 4 (.slot 39) (.slot 43), some 44, none⟩, [⟨.load false 1 (.slot 31), some 32, none⟩]⟩,
  ⟨⟨.mapup .i32 (.slot 29) (.slot 33) (.slot 44), none, none⟩, []⟩]
def r14_8 : List XLine := [⟨⟨.mv (.slot 3), some 45, none⟩, []⟩,
  ⟨⟨.mv (.slot 6), some 46, none⟩, []⟩,
  ⟨⟨.iaddr 1 (.slot 46) (.const (.int .i64 (.ofNat 1))), some 47, none⟩, []⟩,
  ⟨⟨.load false 1 (.slot 47), some 48, none⟩, []⟩,
  ⟨⟨.un .neg (.slot 48), some 49, none⟩, []⟩,
  ⟨⟨.mv (.slot 3), some 50, none⟩, []⟩,
  ⟨⟨.mv (.slot 6), some 51, none⟩, []⟩,
  ⟨⟨.iaddr 1 (.slot 51) (.const (.int .i64 (.ofNat 1))), some 52, none⟩, []⟩,
  ⟨⟨.load false 1 (.slot 52), some 53, none⟩, []⟩,
  ⟨⟨.un .neg (.slot 53), some 54, none⟩, []⟩,
  ⟨⟨.lookup .i32 .nils (.slot 50) (.slot 54) false, some 55, none⟩, []⟩,
  ⟨⟨.mv (.slot 6), some 56, none⟩, []⟩,
  ⟨⟨.iaddr 1 (.slot 56) (.const (.int .i64 (.ofNat 0))), some 57, none⟩, []⟩,
  ⟨⟨.load false 1 (.slot 57), some 58, none⟩, []⟩,
  ⟨⟨.bslice 1 [(.int .i32 (.ofNat 0))] [(0, 1, (.slot 58))] 1, some 59, none⟩, [⟨.load false 1 (.slot 47), some 48, none⟩, ⟨.load false 1 (.slot 52), some 53, none⟩, ⟨.lookup .i32 .nils (.slot 50) (.slot 54) false, some 55, none⟩]⟩,
  ⟨⟨.append 1 4 (.slot 55) (.slot 59), some 60, none⟩, [⟨.load false 1 (.slot 47), some 48, none⟩]⟩,
  ⟨⟨.mapup .i32 (.slot 45) (.slot 49) (.slot 60), none, none⟩, []⟩]
def r14_9 : List XLine := [⟨⟨.bin .add 3 .num (.slot 12) (.const (.int .i64 (.ofNat 1))), some 61, none⟩, []⟩,
  ⟨⟨.mv (.slot 61), some 12, none⟩, []⟩]
def r14_10 : List XLine := [⟨⟨.mv (.slot 3), some 62, none⟩, []⟩,
  ⟨⟨.mv (.slot 62), some 2, none⟩, []⟩]
def xf14 : XFunc := ⟨(.seq (.region false r14_0)
  (.seq (.region false r14_1)
  (.seq (.seq (.region false r14_2)
  (.block 0 (.loop (.seq (.region false r14_3)
  (.seq (.cond (.slot 13)
  .skip
  (.exit 0))
  (.seq (.block 1 (.seq (.region false r14_4)
  (.seq (.region false r14_5)
  (.seq (.region false r14_6)
  (.cond (.slot 28)
  (.seq (.region true r14_7)
  (.region true r14_8))
  .skip)))))
  (.region false r14_9)))))))
  (.seq (.region false r14_10)
  .ret)))),
  [.tmp 2]⟩
theorem xf14_ok : compFunc Tryz.prog Tryz.f14 = some xf14 := by kernel_rfl
end Go.Proofs.YtcpkfdabkpeomaaGreat

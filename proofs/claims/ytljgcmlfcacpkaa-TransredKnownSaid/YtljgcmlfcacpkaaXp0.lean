/- The functions of the program in X's code, printed by a program of ours; each is what the program's own is turned to. -/
import Derived.Test.YtljgcmlfcacpkaaProg
import Derived.Test.YtljgcmlfcacpkaaXc
import Derived.KernelRfl
namespace Go.Proofs.Ytljgcmlfcacpkaa
open Go.Xr
/-- gosem.cut.init -/
def xf2 : XFunc := ⟨(.region false [⟨⟨.call (.const (.func 1 [] [])) [], some 0, none⟩, []⟩]),
  []⟩
theorem xf2_ok : compFunc Try.prog Try.f2 = some xf2 := by kernel_rfl
/-- threshing/threshinglaw23.TransredKnown -/
def xf3 : XFunc := ⟨(.seq (.region false [⟨⟨.mv (.const (.bool false)), some 0, none⟩, []⟩])
  (.seq (.region false [⟨⟨.bslice 1 [(.int .i32 (.ofNat 0)), (.int .i32 (.ofNat 0))] [(0, 1, (.const (.int .i32 (.negSucc 0)))), (1, 1, (.const (.int .i32 (.ofNat 2))))] 2, some 26, none⟩, []⟩,
    ⟨⟨.bslice 1 [(.int .i32 (.ofNat 0)), (.int .i32 (.ofNat 0))] [(0, 1, (.const (.int .i32 (.negSucc 1)))), (1, 1, (.const (.int .i32 (.ofNat 3))))] 2, some 27, none⟩, []⟩,
    ⟨⟨.bslice 1 [(.int .i32 (.ofNat 0)), (.int .i32 (.ofNat 0))] [(0, 1, (.const (.int .i32 (.negSucc 0)))), (1, 1, (.const (.int .i32 (.ofNat 3))))] 2, some 28, none⟩, []⟩,
    ⟨⟨.bslice 1 [(.int .i32 (.ofNat 0)), (.int .i32 (.ofNat 0))] [(0, 1, (.const (.int .i32 (.ofNat 3)))), (1, 1, (.const (.int .i32 (.negSucc 0))))] 2, some 29, none⟩, []⟩,
    ⟨⟨.bslice 1 [.nils, .nils, .nils, .nils] [(0, 1, (.slot 26)), (1, 1, (.slot 27)), (2, 1, (.slot 28)), (3, 1, (.slot 29))] 4, some 30, none⟩, []⟩,
    ⟨⟨.call (.const (.func 4 [] [])) [(.slot 30)], some 31, none⟩, []⟩,
    ⟨⟨.mv (.slot 31), some 1, none⟩, []⟩])
  (.seq (.region false [⟨⟨.mv (.slot 1), some 33, none⟩, []⟩,
    ⟨⟨.call (.const (.func 5 [] [])) [(.slot 33), (.const (.int .i64 (.ofNat 1)))], some 34, none⟩, []⟩,
    ⟨⟨.mv (.slot 34), some 32, none⟩, []⟩,
    ⟨⟨.extract (.slot 32) 0, some 35, none⟩, []⟩,
    ⟨⟨.extract (.slot 32) 1, some 36, none⟩, []⟩,
    ⟨⟨.mv (.slot 35), some 2, none⟩, []⟩,
    ⟨⟨.mv (.slot 36), some 3, none⟩, []⟩])
  (.seq (.region false [⟨⟨.mv (.slot 1), some 38, none⟩, []⟩,
    ⟨⟨.call (.const (.func 5 [] [])) [(.slot 38), (.const (.int .i64 (.ofNat 9)))], some 39, none⟩, []⟩,
    ⟨⟨.mv (.slot 39), some 37, none⟩, []⟩,
    ⟨⟨.extract (.slot 37) 0, some 40, none⟩, []⟩,
    ⟨⟨.extract (.slot 37) 1, some 41, none⟩, []⟩,
    ⟨⟨.mv (.slot 40), some 4, none⟩, []⟩,
    ⟨⟨.mv (.slot 41), some 5, none⟩, []⟩])
  (.seq (.region false [⟨⟨.mv (.slot 1), some 43, none⟩, []⟩,
    ⟨⟨.call (.const (.func 5 [] [])) [(.slot 43), (.const (.int .i64 (.ofNat 9)))], some 44, none⟩, []⟩,
    ⟨⟨.mv (.slot 44), some 42, none⟩, []⟩,
    ⟨⟨.extract (.slot 42) 0, some 45, none⟩, []⟩,
    ⟨⟨.extract (.slot 42) 1, some 46, none⟩, []⟩,
    ⟨⟨.mv (.slot 45), some 6, none⟩, []⟩,
    ⟨⟨.mv (.slot 46), some 7, none⟩, []⟩])
  (.seq (.region false [⟨⟨.mv (.slot 2), some 47, none⟩, []⟩,
    ⟨⟨.bin .eql 3 .num (.slot 47) (.const (.int .i64 (.ofNat 1))), some 48, none⟩, []⟩,
    ⟨⟨.mv (.slot 48), some 49, none⟩, []⟩,
    ⟨⟨.mv (.slot 3), some 50, some (49, true)⟩, []⟩,
    ⟨⟨.bin .eql 27 .num (.slot 50) (.const (.int .i64 (.ofNat 0))), some 51, some (49, true)⟩, []⟩,
    ⟨⟨.pick (.slot 49) (.slot 51) (.const (.bool false)), some 52, none⟩, []⟩,
    ⟨⟨.mv (.slot 52), some 53, none⟩, []⟩,
    ⟨⟨.mv (.slot 4), some 54, some (53, true)⟩, []⟩,
    ⟨⟨.bin .eql 3 .num (.slot 54) (.const (.int .i64 (.ofNat 1))), some 55, some (53, true)⟩, []⟩,
    ⟨⟨.pick (.slot 53) (.slot 55) (.const (.bool false)), some 56, none⟩, []⟩,
    ⟨⟨.mv (.slot 56), some 57, none⟩, []⟩,
    ⟨⟨.mv (.slot 5), some 58, some (57, true)⟩, []⟩,
    ⟨⟨.bin .eql 27 .num (.slot 58) (.const (.int .i64 (.ofNat 0))), some 59, some (57, true)⟩, []⟩,
    ⟨⟨.pick (.slot 57) (.slot 59) (.const (.bool false)), some 60, none⟩, []⟩,
    ⟨⟨.mv (.slot 60), some 61, none⟩, []⟩,
    ⟨⟨.mv (.slot 6), some 62, some (61, true)⟩, []⟩,
    ⟨⟨.bin .eql 3 .num (.slot 62) (.const (.int .i64 (.ofNat 0))), some 63, some (61, true)⟩, []⟩,
    ⟨⟨.pick (.slot 61) (.slot 63) (.const (.bool false)), some 64, none⟩, []⟩,
    ⟨⟨.mv (.slot 64), some 65, none⟩, []⟩,
    ⟨⟨.mv (.slot 7), some 66, some (65, true)⟩, []⟩,
    ⟨⟨.bin .eql 27 .num (.slot 66) (.const (.int .i64 (.ofNat 0))), some 67, some (65, true)⟩, []⟩,
    ⟨⟨.pick (.slot 65) (.slot 67) (.const (.bool false)), some 68, none⟩, []⟩,
    ⟨⟨.mv (.slot 68), some 69, none⟩, []⟩,
    ⟨⟨.mv (.slot 1), some 70, some (69, true)⟩, []⟩,
    ⟨⟨.call (.const (.func 6 [] [])) [(.slot 70)], some 71, some (69, true)⟩, []⟩,
    ⟨⟨.len .slice (.slot 71), some 72, some (69, true)⟩, []⟩,
    ⟨⟨.bin .eql 3 .num (.slot 72) (.const (.int .i64 (.ofNat 2))), some 73, some (69, true)⟩, []⟩,
    ⟨⟨.pick (.slot 69) (.slot 73) (.const (.bool false)), some 74, none⟩, []⟩,
    ⟨⟨.mv (.slot 74), some 8, none⟩, []⟩])
  (.seq (.region false [⟨⟨.bslice 1 [(.int .i32 (.ofNat 0)), (.int .i32 (.ofNat 0))] [(0, 1, (.const (.int .i32 (.negSucc 0)))), (1, 1, (.const (.int .i32 (.ofNat 2))))] 2, some 75, none⟩, []⟩,
    ⟨⟨.bslice 1 [(.int .i32 (.ofNat 0)), (.int .i32 (.ofNat 0))] [(0, 1, (.const (.int .i32 (.negSucc 1)))), (1, 1, (.const (.int .i32 (.ofNat 3))))] 2, some 76, none⟩, []⟩,
    ⟨⟨.bslice 1 [(.int .i32 (.ofNat 0)), (.int .i32 (.ofNat 0))] [(0, 1, (.const (.int .i32 (.negSucc 2)))), (1, 1, (.const (.int .i32 (.ofNat 4))))] 2, some 77, none⟩, []⟩,
    ⟨⟨.bslice 1 [(.int .i32 (.ofNat 0)), (.int .i32 (.ofNat 0))] [(0, 1, (.const (.int .i32 (.negSucc 0)))), (1, 1, (.const (.int .i32 (.ofNat 4))))] 2, some 78, none⟩, []⟩,
    ⟨⟨.bslice 1 [.nils, .nils, .nils, .nils] [(0, 1, (.slot 75)), (1, 1, (.slot 76)), (2, 1, (.slot 77)), (3, 1, (.slot 78))] 4, some 79, none⟩, []⟩,
    ⟨⟨.call (.const (.func 4 [] [])) [(.slot 79)], some 80, none⟩, []⟩,
    ⟨⟨.mv (.slot 80), some 9, none⟩, []⟩])
  (.seq (.region false [⟨⟨.mv (.slot 9), some 82, none⟩, []⟩,
    ⟨⟨.bslice 1 [(.int .i32 (.ofNat 0)), (.int .i32 (.ofNat 0))] [(0, 1, (.const (.int .i32 (.negSucc 0)))), (1, 1, (.const (.int .i32 (.ofNat 3))))] 2, some 83, none⟩, []⟩,
    ⟨⟨.bslice 1 [(.int .i64 (.ofNat 0)), (.int .i64 (.ofNat 0))] [(0, 1, (.const (.int .i64 (.ofNat 1)))), (1, 1, (.const (.int .i64 (.ofNat 2))))] 2, some 84, none⟩, []⟩,
    ⟨⟨.call (.const (.func 7 [] [])) [(.slot 82), (.slot 83), (.slot 84), (.const (.bool true))], some 85, none⟩, []⟩,
    ⟨⟨.mv (.slot 85), some 81, none⟩, []⟩,
    ⟨⟨.extract (.slot 81) 0, some 86, none⟩, []⟩,
    ⟨⟨.extract (.slot 81) 1, some 87, none⟩, []⟩,
    ⟨⟨.mv (.slot 86), some 10, none⟩, []⟩,
    ⟨⟨.mv (.slot 87), some 11, none⟩, []⟩])
  (.seq (.region false [⟨⟨.mv (.slot 9), some 89, none⟩, []⟩,
    ⟨⟨.call (.const (.func 5 [] [])) [(.slot 89), (.const (.int .i64 (.ofNat 9)))], some 90, none⟩, []⟩,
    ⟨⟨.mv (.slot 90), some 88, none⟩, []⟩,
    ⟨⟨.extract (.slot 88) 0, some 91, none⟩, []⟩,
    ⟨⟨.extract (.slot 88) 1, some 92, none⟩, []⟩,
    ⟨⟨.mv (.slot 91), some 12, none⟩, []⟩,
    ⟨⟨.mv (.slot 92), some 13, none⟩, []⟩])
  (.seq (.region false [⟨⟨.mv (.slot 9), some 94, none⟩, []⟩,
    ⟨⟨.mv (.slot 10), some 95, none⟩, []⟩,
    ⟨⟨.call (.const (.func 8 [] [])) [(.slot 94), (.slot 95)], some 96, none⟩, []⟩,
    ⟨⟨.mv (.slot 96), some 93, none⟩, []⟩,
    ⟨⟨.extract (.slot 93) 0, some 97, none⟩, []⟩,
    ⟨⟨.extract (.slot 93) 1, some 98, none⟩, []⟩,
    ⟨⟨.alloc [(.int .i64 (.ofNat 0)), .nils, (.bool false)], some 14, none⟩, []⟩,
    ⟨⟨.store 3 (.slot 14) (.slot 97), none, none⟩, []⟩,
    ⟨⟨.mv (.slot 98), some 15, none⟩, []⟩])
  (.seq (.region false [⟨⟨.mv (.slot 11), some 99, none⟩, []⟩,
    ⟨⟨.bin .eql 27 .num (.slot 99) (.const (.int .i64 (.ofNat 0))), some 100, none⟩, []⟩,
    ⟨⟨.mv (.slot 100), some 101, none⟩, []⟩,
    ⟨⟨.mv (.slot 12), some 102, some (101, true)⟩, []⟩,
    ⟨⟨.bin .eql 3 .num (.slot 102) (.const (.int .i64 (.ofNat 2))), some 103, some (101, true)⟩, []⟩,
    ⟨⟨.pick (.slot 101) (.slot 103) (.const (.bool false)), some 104, none⟩, []⟩,
    ⟨⟨.mv (.slot 104), some 105, none⟩, []⟩,
    ⟨⟨.mv (.slot 13), some 106, some (105, true)⟩, []⟩,
    ⟨⟨.bin .eql 27 .num (.slot 106) (.const (.int .i64 (.ofNat 0))), some 107, some (105, true)⟩, []⟩,
    ⟨⟨.pick (.slot 105) (.slot 107) (.const (.bool false)), some 108, none⟩, []⟩,
    ⟨⟨.mv (.slot 108), some 109, none⟩, []⟩,
    ⟨⟨.mv (.slot 15), some 110, some (109, true)⟩, []⟩,
    ⟨⟨.un .not (.slot 110), some 111, some (109, true)⟩, []⟩,
    ⟨⟨.pick (.slot 109) (.slot 111) (.const (.bool false)), some 112, none⟩, []⟩,
    ⟨⟨.mv (.slot 112), some 113, none⟩, []⟩,
    ⟨⟨.mv (.slot 9), some 114, some (113, true)⟩, []⟩,
    ⟨⟨.call (.const (.func 9 [] [])) [(.slot 114)], some 115, some (113, true)⟩, []⟩,
    ⟨⟨.len .slice (.slot 115), some 116, some (113, true)⟩, []⟩,
    ⟨⟨.bin .eql 3 .num (.slot 116) (.const (.int .i64 (.ofNat 1))), some 117, some (113, true)⟩, []⟩,
    ⟨⟨.pick (.slot 113) (.slot 117) (.const (.bool false)), some 118, none⟩, []⟩,
    ⟨⟨.mv (.slot 118), some 119, none⟩, []⟩,
    ⟨⟨.mv (.slot 9), some 120, some (119, true)⟩, []⟩,
    ⟨⟨.call (.const (.func 6 [] [])) [(.slot 120)], some 121, some (119, true)⟩, []⟩,
    ⟨⟨.len .slice (.slot 121), some 122, some (119, true)⟩, []⟩,
    ⟨⟨.bin .eql 3 .num (.slot 122) (.const (.int .i64 (.ofNat 3))), some 123, some (119, true)⟩, []⟩,
    ⟨⟨.pick (.slot 119) (.slot 123) (.const (.bool false)), some 124, none⟩, []⟩,
    ⟨⟨.mv (.slot 124), some 16, none⟩, []⟩])
  (.seq (.region false [⟨⟨.bslice 1 [(.int .i32 (.ofNat 0)), (.int .i32 (.ofNat 0)), (.int .i32 (.ofNat 0))] [(0, 1, (.const (.int .i32 (.ofNat 2)))), (1, 1, (.const (.int .i32 (.ofNat 2)))), (2, 1, (.const (.int .i32 (.ofNat 1))))] 3, some 125, none⟩, []⟩,
    ⟨⟨.bslice 1 [(.int .i32 (.ofNat 0)), (.int .i32 (.ofNat 0))] [(0, 1, (.const (.int .i32 (.ofNat 1)))), (1, 1, (.const (.int .i32 (.negSucc 0))))] 2, some 126, none⟩, []⟩,
    ⟨⟨.bslice 1 [(.int .i32 (.ofNat 0))] [(0, 1, (.const (.int .i32 (.ofNat 1))))] 1, some 127, none⟩, []⟩,
    ⟨⟨.bslice 1 [(.int .i32 (.ofNat 0)), (.int .i32 (.ofNat 0)), (.int .i32 (.ofNat 0))] [(0, 1, (.const (.int .i32 (.ofNat 1)))), (1, 1, (.const (.int .i32 (.ofNat 2)))), (2, 1, (.const (.int .i32 (.ofNat 3))))] 3, some 128, none⟩, []⟩,
    ⟨⟨.bslice 1 [.nils, .nils, .nils, .nils] [(0, 1, (.slot 125)), (1, 1, (.slot 126)), (2, 1, (.slot 127)), (3, 1, (.slot 128))] 4, some 129, none⟩, []⟩,
    ⟨⟨.call (.const (.func 4 [] [])) [(.slot 129)], some 130, none⟩, []⟩,
    ⟨⟨.mv (.slot 130), some 17, none⟩, []⟩])
  (.seq (.region false [⟨⟨.mv (.slot 17), some 132, none⟩, []⟩,
    ⟨⟨.call (.const (.func 5 [] [])) [(.slot 132), (.const (.int .i64 (.ofNat 9)))], some 133, none⟩, []⟩,
    ⟨⟨.mv (.slot 133), some 131, none⟩, []⟩,
    ⟨⟨.extract (.slot 131) 0, some 134, none⟩, []⟩,
    ⟨⟨.extract (.slot 131) 1, some 135, none⟩, []⟩,
    ⟨⟨.mv (.slot 134), some 18, none⟩, []⟩,
    ⟨⟨.mv (.slot 135), some 19, none⟩, []⟩])
  (.seq (.region false [⟨⟨.call (.const (.func 5 [] [])) [(.const .nilp), (.const (.int .i64 (.ofNat 1)))], some 137, none⟩, []⟩,
    ⟨⟨.mv (.slot 137), some 136, none⟩, []⟩,
    ⟨⟨.extract (.slot 136) 0, some 138, none⟩, []⟩,
    ⟨⟨.extract (.slot 136) 1, some 139, none⟩, []⟩,
    ⟨⟨.mv (.slot 138), some 20, none⟩, []⟩,
    ⟨⟨.mv (.slot 139), some 21, none⟩, []⟩])
  (.seq (.region false [⟨⟨.mv (.slot 17), some 141, none⟩, []⟩,
    ⟨⟨.call (.const (.func 5 [] [])) [(.slot 141), (.const (.int .i64 (.negSucc 0)))], some 142, none⟩, []⟩,
    ⟨⟨.mv (.slot 142), some 140, none⟩, []⟩,
    ⟨⟨.extract (.slot 140) 0, some 143, none⟩, []⟩,
    ⟨⟨.extract (.slot 140) 1, some 144, none⟩, []⟩,
    ⟨⟨.mv (.slot 143), some 22, none⟩, []⟩,
    ⟨⟨.mv (.slot 144), some 23, none⟩, []⟩])
  (.seq (.region false [⟨⟨.bslice 1 [(.int .i32 (.ofNat 0)), (.int .i32 (.ofNat 0))] [(0, 1, (.const (.int .i32 (.ofNat 1)))), (1, 1, (.const (.int .i32 (.ofNat 2))))] 2, some 146, none⟩, []⟩,
    ⟨⟨.bslice 1 [(.int .i32 (.ofNat 0)), (.int .i32 (.ofNat 0))] [(0, 1, (.const (.int .i32 (.ofNat 1)))), (1, 1, (.const (.int .i32 (.ofNat 2))))] 2, some 147, none⟩, []⟩,
    ⟨⟨.bslice 1 [.nils, .nils] [(0, 1, (.slot 146)), (1, 1, (.slot 147))] 2, some 148, none⟩, []⟩,
    ⟨⟨.call (.const (.func 4 [] [])) [(.slot 148)], some 149, none⟩, []⟩,
    ⟨⟨.call (.const (.func 5 [] [])) [(.slot 149), (.const (.int .i64 (.ofNat 0)))], some 150, none⟩, []⟩,
    ⟨⟨.mv (.slot 150), some 145, none⟩, []⟩,
    ⟨⟨.extract (.slot 145) 0, some 151, none⟩, []⟩,
    ⟨⟨.extract (.slot 145) 1, some 152, none⟩, []⟩,
    ⟨⟨.mv (.slot 151), some 24, none⟩, []⟩,
    ⟨⟨.mv (.slot 152), some 25, none⟩, []⟩])
  (.seq (.region false [⟨⟨.mv (.slot 8), some 153, none⟩, []⟩,
    ⟨⟨.mv (.slot 153), some 154, none⟩, []⟩,
    ⟨⟨.mv (.slot 16), some 155, some (154, true)⟩, []⟩,
    ⟨⟨.pick (.slot 154) (.slot 155) (.const (.bool false)), some 156, none⟩, []⟩,
    ⟨⟨.mv (.slot 156), some 157, none⟩, []⟩,
    ⟨⟨.mv (.slot 18), some 158, some (157, true)⟩, []⟩,
    ⟨⟨.bin .eql 3 .num (.slot 158) (.const (.int .i64 (.ofNat 0))), some 159, some (157, true)⟩, []⟩,
    ⟨⟨.pick (.slot 157) (.slot 159) (.const (.bool false)), some 160, none⟩, []⟩,
    ⟨⟨.mv (.slot 160), some 161, none⟩, []⟩,
    ⟨⟨.mv (.slot 19), some 162, some (161, true)⟩, []⟩,
    ⟨⟨.bin .eql 27 .num (.slot 162) (.const (.int .i64 (.ofNat 0))), some 163, some (161, true)⟩, []⟩,
    ⟨⟨.pick (.slot 161) (.slot 163) (.const (.bool false)), some 164, none⟩, []⟩,
    ⟨⟨.mv (.slot 164), some 165, none⟩, []⟩,
    ⟨⟨.mv (.slot 21), some 166, some (165, true)⟩, []⟩,
    ⟨⟨.bin .eql 27 .num (.slot 166) (.const (.int .i64 (.ofNat 1))), some 167, some (165, true)⟩, []⟩,
    ⟨⟨.pick (.slot 165) (.slot 167) (.const (.bool false)), some 168, none⟩, []⟩,
    ⟨⟨.mv (.slot 168), some 169, none⟩, []⟩,
    ⟨⟨.mv (.slot 23), some 170, some (169, true)⟩, []⟩,
    ⟨⟨.bin .eql 27 .num (.slot 170) (.const (.int .i64 (.ofNat 2))), some 171, some (169, true)⟩, []⟩,
    ⟨⟨.pick (.slot 169) (.slot 171) (.const (.bool false)), some 172, none⟩, []⟩,
    ⟨⟨.mv (.slot 172), some 173, none⟩, []⟩,
    ⟨⟨.mv (.slot 24), some 174, some (173, true)⟩, []⟩,
    ⟨⟨.bin .eql 3 .num (.slot 174) (.const (.int .i64 (.ofNat 0))), some 175, some (173, true)⟩, []⟩,
    ⟨⟨.pick (.slot 173) (.slot 175) (.const (.bool false)), some 176, none⟩, []⟩,
    ⟨⟨.mv (.slot 176), some 177, none⟩, []⟩,
    ⟨⟨.mv (.slot 25), some 178, some (177, true)⟩, []⟩,
    ⟨⟨.bin .eql 27 .num (.slot 178) (.const (.int .i64 (.ofNat 0))), some 179, some (177, true)⟩, []⟩,
    ⟨⟨.pick (.slot 177) (.slot 179) (.const (.bool false)), some 180, none⟩, []⟩,
    ⟨⟨.mv (.slot 180), some 181, none⟩, []⟩,
    ⟨⟨.call (.const (.func 10 [] [])) [], some 182, some (181, true)⟩, []⟩,
    ⟨⟨.pick (.slot 181) (.slot 182) (.const (.bool false)), some 183, none⟩, []⟩,
    ⟨⟨.mv (.slot 183), some 0, none⟩, []⟩])
  .ret))))))))))))))))),
  [.tmp 0]⟩
theorem xf3_ok : compFunc Try.prog Try.f3 = some xf3 := by kernel_rfl
/-- threshing/threshinglaw23.began -/
def xf4 : XFunc := ⟨(.seq (.region false [⟨⟨.mv (.const .nilp), some 2, none⟩, []⟩])
  (.seq (.region false [⟨⟨.mv (.slot 0), some 6, none⟩, []⟩,
    ⟨⟨.build [(.int .i64 (.ofNat 0)), .nils] [(0, 1, (.const (.int .i64 (.ofNat 4)))), (1, 1, (.slot 6))], some 7, none⟩, []⟩,
    ⟨⟨.call (.const (.func 11 [] [])) [(.slot 7)], some 8, none⟩, []⟩,
    ⟨⟨.mv (.slot 8), some 5, none⟩, []⟩,
    ⟨⟨.extract (.slot 5) 0, some 9, none⟩, []⟩,
    ⟨⟨.extract (.slot 5) 1, some 10, none⟩, []⟩,
    ⟨⟨.mv (.slot 9), some 3, none⟩, []⟩,
    ⟨⟨.mv (.slot 10), some 4, none⟩, []⟩])
  (.seq (.region false [⟨⟨.mv (.slot 3), some 11, none⟩, []⟩,
    ⟨⟨.mv (.slot 11), some 2, none⟩, []⟩])
  .ret))),
  [.tmp 2]⟩
theorem xf4_ok : compFunc Try.prog Try.f4 = some xf4 := by kernel_rfl
/-- threshing/transred.Transred -/
def xf5 : XFunc := ⟨(.seq (.region false [⟨⟨.mv (.const (.int .i64 (.ofNat 0))), some 4, none⟩, []⟩,
    ⟨⟨.mv (.const (.int .i64 (.ofNat 0))), some 5, none⟩, []⟩])
  (.seq (.block 0 (.seq (.region false [⟨⟨.mv (.slot 0), some 20, none⟩, []⟩,
    ⟨⟨.bin .eql 22 .ptr (.slot 20) (.const .nilp), some 21, none⟩, []⟩,
    ⟨⟨.mv (.slot 21), some 19, none⟩, []⟩])
  (.cond (.slot 19)
   (.seq (.region false [⟨⟨.mv (.const (.int .i64 (.ofNat 0))), some 4, none⟩, []⟩,
     ⟨⟨.mv (.const (.int .i64 (.ofNat 1))), some 5, none⟩, []⟩])
   .ret)
   (.seq (.region false [⟨⟨.mv (.slot 1), some 23, none⟩, []⟩,
     ⟨⟨.bin .lss 3 .num (.slot 23) (.const (.int .i64 (.ofNat 0))), some 24, none⟩, []⟩,
     ⟨⟨.mv (.slot 24), some 22, none⟩, []⟩])
   (.cond (.slot 22)
    (.seq (.region false [⟨⟨.mv (.const (.int .i64 (.ofNat 0))), some 4, none⟩, []⟩,
      ⟨⟨.mv (.const (.int .i64 (.ofNat 2))), some 5, none⟩, []⟩])
    .ret)
    .skip)))))
  (.seq (.region false [⟨⟨.alloc [.nils], some 6, none⟩, []⟩])
  (.seq (.seq (.region false [⟨⟨.mv (.slot 0), some 25, none⟩, []⟩,
    ⟨⟨.call (.const (.func 12 [] [])) [(.slot 25)], some 26, none⟩, []⟩])
  (.block 1 (.rangeFunc (.slot 26) [27] (.region false [⟨⟨.alloc [(.int .i64 (.ofNat 0)), .nils, (.bool false), (.int .i32 (.ofNat 0)), (.int .i32 (.ofNat 0))], some 7, none⟩, []⟩,
    ⟨⟨.store 5 (.slot 7) (.slot 27), none, none⟩, []⟩])
  (.block 2 (.region false [⟨⟨.load false 1 (.slot 6), some 28, none⟩, []⟩,
    ⟨⟨.load true 5 (.slot 7), some 29, none⟩, []⟩,
    ⟨⟨.bslice 5 [(.int .i64 (.ofNat 0)), .nils, (.bool false), (.int .i32 (.ofNat 0)), (.int .i32 (.ofNat 0))] [(0, 5, (.slot 29))] 1, some 30, none⟩, []⟩,
    ⟨⟨.append 5 48 (.slot 28) (.slot 30), some 31, none⟩, []⟩,
    ⟨⟨.store 1 (.slot 6) (.slot 31), none, none⟩, []⟩])))))
  (.seq (.region false [⟨⟨.mv (.const (.int .i64 (.ofNat 0))), some 8, none⟩, []⟩])
  (.seq (.seq (.region false [⟨⟨.load false 1 (.slot 6), some 32, none⟩, []⟩,
    ⟨⟨.call (.const (.func 13 [] [])) [(.slot 32)], some 33, none⟩, []⟩,
    ⟨⟨.len .slice (.slot 33), some 34, none⟩, []⟩,
    ⟨⟨.mv (.const (.int .i64 (.ofNat 0))), some 35, none⟩, []⟩])
  (.block 3 (.loop (.seq (.region false [⟨⟨.bin .lss 3 .num (.slot 35) (.slot 34), some 36, none⟩, []⟩])
   (.seq (.cond (.slot 36)
    .skip
    (.exit 3))
   (.seq (.block 4 (.seq (.region false [⟨⟨.iaddr 5 (.slot 33) (.slot 35), some 37, none⟩, []⟩,
     ⟨⟨.load true 5 (.slot 37), some 38, none⟩, []⟩,
     ⟨⟨.alloc [(.int .i64 (.ofNat 0)), .nils, (.bool false), (.int .i32 (.ofNat 0)), (.int .i32 (.ofNat 0))], some 10, none⟩, []⟩,
     ⟨⟨.store 5 (.slot 10) (.slot 38), none, none⟩, []⟩])
   (.seq (.seq (.region false [⟨⟨.mv (.slot 8), some 39, none⟩, []⟩,
     ⟨⟨.mv (.slot 1), some 40, none⟩, []⟩,
     ⟨⟨.bin .eql 3 .num (.slot 39) (.slot 40), some 41, none⟩, []⟩])
   (.cond (.slot 41)
    (.exit 3)
    .skip))
   (.seq (.region false [⟨⟨.load false 1 (.slot 6), some 42, none⟩, []⟩,
     ⟨⟨.load true 5 (.slot 10), some 43, none⟩, []⟩,
     ⟨⟨.call (.const (.func 14 [] [])) [(.slot 42), (.slot 43)], some 44, none⟩, []⟩,
     ⟨⟨.mv (.slot 44), some 11, none⟩, []⟩])
   (.seq (.seq (.region false [⟨⟨.mv (.slot 11), some 45, none⟩, []⟩,
     ⟨⟨.bin .eql 34 .slice (.slot 45) (.const .nils), some 46, none⟩, []⟩])
   (.cond (.slot 46)
    (.exit 4)
    .skip))
   (.seq (.region false [⟨⟨.mv (.slot 0), some 48, none⟩, []⟩,
     ⟨⟨.faddr 0 (.slot 10), some 49, none⟩, []⟩,
     ⟨⟨.faddr 0 (.slot 49), some 50, none⟩, []⟩,
     ⟨⟨.load false 1 (.slot 50), some 51, none⟩, []⟩,
     ⟨⟨.call (.const (.func 8 [] [])) [(.slot 48), (.slot 51)], some 52, none⟩, []⟩,
     ⟨⟨.mv (.slot 52), some 47, none⟩, []⟩,
     ⟨⟨.extract (.slot 47) 0, some 53, none⟩, []⟩,
     ⟨⟨.extract (.slot 47) 1, some 54, none⟩, []⟩,
     ⟨⟨.alloc [(.int .i64 (.ofNat 0)), .nils, (.bool false)], some 12, none⟩, []⟩,
     ⟨⟨.store 3 (.slot 12) (.slot 53), none, none⟩, []⟩,
     ⟨⟨.mv (.slot 54), some 13, none⟩, []⟩])
   (.seq (.seq (.region false [⟨⟨.faddr 2 (.slot 12), some 55, none⟩, []⟩,
     ⟨⟨.load false 1 (.slot 55), some 56, none⟩, []⟩])
   (.cond (.slot 56)
    (.seq (.region false [⟨⟨.mv (.slot 0), some 57, none⟩, []⟩,
      ⟨⟨.faddr 0 (.slot 10), some 58, none⟩, []⟩,
      ⟨⟨.faddr 0 (.slot 58), some 59, none⟩, []⟩,
      ⟨⟨.load false 1 (.slot 59), some 60, none⟩, []⟩,
      ⟨⟨.call (.const (.func 15 [] [])) [(.slot 57), (.slot 60)], some 61, none⟩, []⟩,
      ⟨⟨.mv (.slot 61), some 14, none⟩, []⟩])
    (.seq (.region false [⟨⟨.mv (.slot 14), some 62, none⟩, []⟩,
      ⟨⟨.bin .neq 27 .num (.slot 62) (.const (.int .i64 (.ofNat 0))), some 63, none⟩, []⟩])
    (.cond (.slot 63)
     (.seq (.region false [⟨⟨.mv (.slot 8), some 64, none⟩, []⟩,
       ⟨⟨.mv (.slot 14), some 65, none⟩, []⟩,
       ⟨⟨.mv (.slot 64), some 4, none⟩, []⟩,
       ⟨⟨.mv (.slot 65), some 5, none⟩, []⟩])
     .ret)
     .skip)))
    (.seq (.seq (.region false [⟨⟨.mv (.slot 11), some 66, none⟩, []⟩,
      ⟨⟨.len .slice (.slot 66), some 67, none⟩, []⟩,
      ⟨⟨.mv (.const (.int .i64 (.ofNat 0))), some 68, none⟩, []⟩])
    (.block 5 (.loop (.seq (.region false [⟨⟨.bin .lss 3 .num (.slot 68) (.slot 67), some 69, none⟩, []⟩])
     (.seq (.cond (.slot 69)
      .skip
      (.exit 5))
     (.seq (.block 6 (.seq (.region false [⟨⟨.iaddr 1 (.slot 66) (.slot 68), some 70, none⟩, []⟩,
       ⟨⟨.load false 1 (.slot 70), some 71, none⟩, []⟩,
       ⟨⟨.mv (.slot 71), some 16, none⟩, []⟩])
     (.seq (.region false [⟨⟨.mv (.slot 0), some 72, none⟩, []⟩,
       ⟨⟨.mv (.slot 16), some 73, none⟩, []⟩,
       ⟨⟨.call (.const (.func 16 [] [])) [(.slot 72), (.slot 73)], some 74, none⟩, []⟩,
       ⟨⟨.mv (.slot 74), some 17, none⟩, []⟩])
     (.seq (.region false [⟨⟨.mv (.slot 17), some 75, none⟩, []⟩,
       ⟨⟨.bin .neq 27 .num (.slot 75) (.const (.int .i64 (.ofNat 0))), some 76, none⟩, []⟩])
     (.cond (.slot 76)
      (.seq (.region false [⟨⟨.mv (.slot 8), some 77, none⟩, []⟩,
        ⟨⟨.mv (.slot 17), some 78, none⟩, []⟩,
        ⟨⟨.mv (.slot 77), some 4, none⟩, []⟩,
        ⟨⟨.mv (.slot 78), some 5, none⟩, []⟩])
      .ret)
      .skip)))))
     (.region false [⟨⟨.bin .add 3 .num (.slot 68) (.const (.int .i64 (.ofNat 1))), some 79, none⟩, []⟩,
       ⟨⟨.mv (.slot 79), some 68, none⟩, []⟩])))))))
    (.seq (.region true [⟨⟨.mv (.slot 0), some 80, none⟩, []⟩,
      ⟨⟨.faddr 0 (.slot 10), some 81, none⟩, []⟩,
      ⟨⟨.faddr 0 (.slot 81), some 82, none⟩, []⟩,
      ⟨⟨.load false 1 (.slot 82), some 83, none⟩, []⟩,
      ⟨⟨.faddr 1 (.slot 12), some 84, none⟩, []⟩,
      ⟨⟨.load false 1 (.slot 84), some 85, none⟩, []⟩,
      ⟨⟨.slc 1 (.slot 85) none (some (.const (.int .i64 (.ofNat 1)))) none, some 86, none⟩, []⟩,
      ⟨⟨.call (.const (.func 17 [] [])) [(.slot 80), (.slot 83), (.slot 86)], some 87, none⟩, []⟩,
      ⟨⟨.mv (.slot 87), some 18, none⟩, []⟩])
    (.seq (.region false [⟨⟨.mv (.slot 18), some 88, none⟩, []⟩,
      ⟨⟨.bin .neq 27 .num (.slot 88) (.const (.int .i64 (.ofNat 0))), some 89, none⟩, []⟩])
    (.cond (.slot 89)
     (.seq (.region false [⟨⟨.mv (.slot 8), some 90, none⟩, []⟩,
       ⟨⟨.mv (.slot 18), some 91, none⟩, []⟩,
       ⟨⟨.mv (.slot 90), some 4, none⟩, []⟩,
       ⟨⟨.mv (.slot 91), some 5, none⟩, []⟩])
     .ret)
     .skip))))))
   (.seq (.region false [⟨⟨.load false 1 (.slot 6), some 92, none⟩, []⟩,
     ⟨⟨.mkfunc 19 [] [(.slot 10)], some 93, none⟩, []⟩,
     ⟨⟨.call (.const (.func 18 [] [])) [(.slot 92), (.slot 93)], some 94, none⟩, []⟩,
     ⟨⟨.store 1 (.slot 6) (.slot 94), none, none⟩, []⟩])
   (.region false [⟨⟨.mv (.slot 8), some 95, none⟩, []⟩,
     ⟨⟨.bin .add 3 .num (.slot 95) (.const (.int .i64 (.ofNat 1))), some 96, none⟩, []⟩,
     ⟨⟨.mv (.slot 96), some 8, none⟩, []⟩])))))))))
   (.region false [⟨⟨.bin .add 3 .num (.slot 35) (.const (.int .i64 (.ofNat 1))), some 97, none⟩, []⟩,
     ⟨⟨.mv (.slot 97), some 35, none⟩, []⟩])))))))
  (.seq (.region false [⟨⟨.mv (.slot 8), some 98, none⟩, []⟩,
    ⟨⟨.mv (.slot 98), some 4, none⟩, []⟩,
    ⟨⟨.mv (.const (.int .i64 (.ofNat 0))), some 5, none⟩, []⟩])
  .ret))))))),
  [.tmp 4, .tmp 5]⟩
theorem xf5_ok : compFunc Try.prog Try.f5 = some xf5 := by kernel_rfl
/-- (*threshing/base.Base).Entries -/
def xf6 : XFunc := ⟨(.seq (.region false [⟨⟨.mv (.const .nils), some 2, none⟩, []⟩])
  (.seq (.seq (.region false [⟨⟨.mv (.slot 0), some 6, none⟩, []⟩,
    ⟨⟨.bin .eql 22 .ptr (.slot 6) (.const .nilp), some 7, none⟩, []⟩])
  (.cond (.slot 7)
   (.seq (.region false [⟨⟨.mv (.const .nils), some 2, none⟩, []⟩])
   .ret)
   .skip))
  (.seq (.region false [⟨⟨.mv (.const .nils), some 3, none⟩, []⟩])
  (.seq (.seq (.region false [⟨⟨.mv (.slot 0), some 8, none⟩, []⟩,
    ⟨⟨.nilCheck (.slot 8), some 9, none⟩, []⟩,
    ⟨⟨.faddr 1 (.slot 9), some 10, none⟩, []⟩,
    ⟨⟨.load false 1 (.slot 10), some 11, none⟩, []⟩,
    ⟨⟨.call (.const (.func 21 [] [])) [(.slot 11)], some 12, none⟩, []⟩,
    ⟨⟨.call (.const (.func 20 [] [])) [(.slot 12)], some 13, none⟩, []⟩,
    ⟨⟨.len .slice (.slot 13), some 14, none⟩, []⟩,
    ⟨⟨.mv (.const (.int .i64 (.ofNat 0))), some 15, none⟩, []⟩])
  (.block 0 (.loop (.seq (.region false [⟨⟨.bin .lss 3 .num (.slot 15) (.slot 14), some 16, none⟩, []⟩])
   (.seq (.cond (.slot 16)
    .skip
    (.exit 0))
   (.seq (.block 1 (.seq (.region false [⟨⟨.iaddr 1 (.slot 13) (.slot 15), some 17, none⟩, []⟩,
     ⟨⟨.load false 1 (.slot 17), some 18, none⟩, []⟩,
     ⟨⟨.mv (.slot 18), some 5, none⟩, []⟩])
   (.region false [⟨⟨.mv (.slot 3), some 19, none⟩, []⟩,
     ⟨⟨.mv (.slot 0), some 20, none⟩, []⟩,
     ⟨⟨.nilCheck (.slot 20), some 21, none⟩, []⟩,
     ⟨⟨.faddr 1 (.slot 21), some 22, none⟩, []⟩,
     ⟨⟨.load false 1 (.slot 22), some 23, none⟩, []⟩,
     ⟨⟨.mv (.slot 5), some 24, none⟩, []⟩,
     ⟨⟨.lookup .i64 (.agg [(.int .i64 (.ofNat 0)), .nils, (.bool false)]) (.slot 23) (.slot 24) false, some 25, none⟩, []⟩,
     ⟨⟨.call (.const (.func 22 [] [])) [(.slot 25)], some 26, none⟩, []⟩,
     ⟨⟨.bslice 3 [(.int .i64 (.ofNat 0)), .nils, (.bool false)] [(0, 3, (.slot 26))] 1, some 27, none⟩, []⟩,
     ⟨⟨.append 3 40 (.slot 19) (.slot 27), some 28, none⟩, []⟩,
     ⟨⟨.mv (.slot 28), some 3, none⟩, []⟩])))
   (.region false [⟨⟨.bin .add 3 .num (.slot 15) (.const (.int .i64 (.ofNat 1))), some 29, none⟩, []⟩,
     ⟨⟨.mv (.slot 29), some 15, none⟩, []⟩])))))))
  (.seq (.region false [⟨⟨.mv (.slot 3), some 30, none⟩, []⟩,
    ⟨⟨.mv (.slot 30), some 2, none⟩, []⟩])
  .ret))))),
  [.tmp 2]⟩
theorem xf6_ok : compFunc Try.prog Try.f6 = some xf6 := by kernel_rfl
/-- (*threshing/base.Base).Add -/
def xf7 : XFunc := ⟨(.seq (.region false [⟨⟨.mv (.const (.int .i64 (.ofNat 0))), some 8, none⟩, []⟩,
    ⟨⟨.mv (.const (.int .i64 (.ofNat 0))), some 9, none⟩, []⟩])
  (.seq (.block 0 (.seq (.region false [⟨⟨.mv (.slot 0), some 12, none⟩, []⟩,
    ⟨⟨.bin .eql 22 .ptr (.slot 12) (.const .nilp), some 13, none⟩, []⟩,
    ⟨⟨.mv (.slot 13), some 11, none⟩, []⟩])
  (.cond (.slot 11)
   (.seq (.region false [⟨⟨.mv (.const (.int .i64 (.ofNat 0))), some 8, none⟩, []⟩,
     ⟨⟨.mv (.const (.int .i64 (.ofNat 1))), some 9, none⟩, []⟩])
   .ret)
   (.seq (.region false [⟨⟨.mv (.slot 0), some 15, none⟩, []⟩,
     ⟨⟨.call (.const (.func 23 [] [])) [(.slot 15)], some 16, none⟩, []⟩,
     ⟨⟨.mv (.slot 16), some 14, none⟩, []⟩])
   (.cond (.slot 14)
    (.seq (.region false [⟨⟨.mv (.const (.int .i64 (.ofNat 0))), some 8, none⟩, []⟩,
      ⟨⟨.mv (.const (.int .i64 (.ofNat 3))), some 9, none⟩, []⟩])
    .ret)
    (.seq (.region false [⟨⟨.mv (.slot 0), some 18, none⟩, []⟩,
      ⟨⟨.mv (.slot 1), some 19, none⟩, []⟩,
      ⟨⟨.call (.const (.func 24 [] [])) [(.slot 18), (.slot 19)], some 20, none⟩, []⟩,
      ⟨⟨.un .not (.slot 20), some 21, none⟩, []⟩,
      ⟨⟨.mv (.slot 21), some 17, none⟩, []⟩])
    (.cond (.slot 17)
     (.seq (.region false [⟨⟨.mv (.const (.int .i64 (.ofNat 0))), some 8, none⟩, []⟩,
       ⟨⟨.mv (.const (.int .i64 (.ofNat 4))), some 9, none⟩, []⟩])
     .ret)
     .skip)))))))
  (.seq (.seq (.region false [⟨⟨.mv (.slot 0), some 22, none⟩, []⟩,
    ⟨⟨.mv (.slot 1), some 23, none⟩, []⟩,
    ⟨⟨.mv (.slot 2), some 24, none⟩, []⟩,
    ⟨⟨.call (.const (.func 25 [] [])) [(.slot 22), (.slot 23), (.slot 24)], some 25, none⟩, []⟩,
    ⟨⟨.mv (.slot 25), some 10, none⟩, []⟩])
  (.seq (.region false [⟨⟨.mv (.slot 10), some 26, none⟩, []⟩,
    ⟨⟨.bin .neq 27 .num (.slot 26) (.const (.int .i64 (.ofNat 0))), some 27, none⟩, []⟩])
  (.cond (.slot 27)
   (.seq (.region false [⟨⟨.mv (.slot 10), some 28, none⟩, []⟩,
     ⟨⟨.mv (.const (.int .i64 (.ofNat 0))), some 8, none⟩, []⟩,
     ⟨⟨.mv (.slot 28), some 9, none⟩, []⟩])
   .ret)
   .skip)))
  (.seq (.region false [⟨⟨.mv (.slot 0), some 29, none⟩, []⟩,
    ⟨⟨.mv (.slot 1), some 30, none⟩, []⟩,
    ⟨⟨.mv (.slot 3), some 31, none⟩, []⟩,
    ⟨⟨.call (.const (.func 26 [] [])) [(.slot 29), (.slot 30), (.slot 31)], some 32, none⟩, []⟩])
  (.seq (.region true [⟨⟨.mv (.slot 0), some 33, none⟩, []⟩,
    ⟨⟨.mv (.slot 0), some 34, none⟩, []⟩,
    ⟨⟨.nilCheck (.slot 34), some 35, none⟩, []⟩,
    ⟨⟨.faddr 5 (.slot 35), some 36, none⟩, []⟩,
    ⟨⟨.load false 1 (.slot 36), some 37, none⟩, []⟩,
    ⟨⟨.mv (.slot 0), some 38, none⟩, []⟩,
    ⟨⟨.nilCheck (.slot 38), some 39, none⟩, []⟩,
    ⟨⟨.faddr 4 (.slot 39), some 40, none⟩, []⟩,
    ⟨⟨.load false 1 (.slot 40), some 41, none⟩, []⟩,
    ⟨⟨.mv (.slot 1), some 42, none⟩, []⟩,
    ⟨⟨.mv (.slot 2), some 44, none⟩, []⟩,
    ⟨⟨.call (.const (.func 27 [] [])) [(.slot 42)], some 43, none⟩, [⟨.load false 1 (.slot 36), some 37, none⟩, ⟨.load false 1 (.slot 40), some 41, none⟩]⟩,
    ⟨⟨.call (.const (.func 28 [] [])) [(.slot 44)], some 45, none⟩, [⟨.load false 1 (.slot 36), some 37, none⟩, ⟨.load false 1 (.slot 40), some 41, none⟩]⟩,
    ⟨⟨.build [(.int .u8 (.ofNat 0)), (.int .i64 (.ofNat 0)), .nils, .nils] [(0, 1, (.const (.int .u8 (.ofNat 1)))), (1, 1, (.slot 41)), (2, 1, (.slot 43)), (3, 1, (.slot 45))], some 46, none⟩, []⟩,
    ⟨⟨.bslice 4 [(.int .u8 (.ofNat 0)), (.int .i64 (.ofNat 0)), .nils, .nils] [(0, 4, (.slot 46))] 1, some 47, none⟩, [⟨.load false 1 (.slot 36), some 37, none⟩]⟩,
    ⟨⟨.append 4 64 (.slot 37) (.slot 47), some 48, none⟩, []⟩,
    ⟨⟨.nilCheck (.slot 33), some 49, none⟩, []⟩,
    ⟨⟨.faddr 5 (.slot 49), some 50, none⟩, []⟩,
    ⟨⟨.store 1 (.slot 50) (.slot 48), none, none⟩, []⟩])
  (.seq (.region true [⟨⟨.mv (.slot 0), some 51, none⟩, []⟩,
    ⟨⟨.mv (.slot 0), some 52, none⟩, []⟩,
    ⟨⟨.nilCheck (.slot 52), some 53, none⟩, []⟩,
    ⟨⟨.faddr 4 (.slot 53), some 54, none⟩, []⟩,
    ⟨⟨.load false 1 (.slot 54), some 55, none⟩, []⟩,
    ⟨⟨.mv (.slot 3), some 56, none⟩, []⟩,
    ⟨⟨.mv (.slot 1), some 57, none⟩, []⟩,
    ⟨⟨.mv (.slot 2), some 59, none⟩, []⟩,
    ⟨⟨.call (.const (.func 27 [] [])) [(.slot 57)], some 58, none⟩, [⟨.load false 1 (.slot 54), some 55, none⟩]⟩,
    ⟨⟨.call (.const (.func 28 [] [])) [(.slot 59)], some 60, none⟩, [⟨.load false 1 (.slot 54), some 55, none⟩]⟩,
    ⟨⟨.build [(.int .u8 (.ofNat 0)), (.int .i64 (.ofNat 0)), (.int .i64 (.ofNat 0)), (.bool false), .nils, .nils] [(0, 1, (.const (.int .u8 (.ofNat 1)))), (1, 1, (.slot 55)), (3, 1, (.slot 56)), (4, 1, (.slot 58)), (5, 1, (.slot 60))], some 61, none⟩, []⟩,
    ⟨⟨.call (.const (.func 29 [] [])) [(.slot 51), (.slot 61)], some 62, none⟩, []⟩])
  (.seq (.region false [⟨⟨.mv (.slot 0), some 63, none⟩, []⟩,
    ⟨⟨.nilCheck (.slot 63), some 64, none⟩, []⟩,
    ⟨⟨.faddr 4 (.slot 64), some 65, none⟩, []⟩,
    ⟨⟨.load false 1 (.slot 65), some 66, none⟩, []⟩,
    ⟨⟨.mv (.slot 66), some 8, none⟩, []⟩,
    ⟨⟨.mv (.const (.int .i64 (.ofNat 0))), some 9, none⟩, []⟩])
  .ret))))))),
  [.tmp 8, .tmp 9]⟩
theorem xf7_ok : compFunc Try.prog Try.f7 = some xf7 := by kernel_rfl
/-- (*threshing/base.Base).Get -/
def xf8 : XFunc := ⟨(.seq (.region false [⟨⟨.alloc [(.int .i64 (.ofNat 0)), .nils, (.bool false)], some 4, none⟩, []⟩,
    ⟨⟨.mv (.const (.bool false)), some 5, none⟩, []⟩])
  (.seq (.seq (.region false [⟨⟨.mv (.slot 0), some 8, none⟩, []⟩,
    ⟨⟨.bin .eql 22 .ptr (.slot 8) (.const .nilp), some 9, none⟩, []⟩])
  (.cond (.slot 9)
   (.seq (.region false [⟨⟨.build [(.int .i64 (.ofNat 0)), .nils, (.bool false)] [], some 10, none⟩, []⟩,
     ⟨⟨.store 3 (.slot 4) (.slot 10), none, none⟩, []⟩,
     ⟨⟨.mv (.const (.bool false)), some 5, none⟩, []⟩])
   .ret)
   .skip))
  (.seq (.region false [⟨⟨.mv (.slot 0), some 12, none⟩, []⟩,
    ⟨⟨.nilCheck (.slot 12), some 13, none⟩, []⟩,
    ⟨⟨.faddr 1 (.slot 13), some 14, none⟩, []⟩,
    ⟨⟨.load false 1 (.slot 14), some 15, none⟩, []⟩,
    ⟨⟨.mv (.slot 1), some 16, none⟩, []⟩,
    ⟨⟨.lookup .i64 (.agg [(.int .i64 (.ofNat 0)), .nils, (.bool false)]) (.slot 15) (.slot 16) true, some 17, none⟩, []⟩,
    ⟨⟨.mv (.slot 17), some 11, none⟩, []⟩,
    ⟨⟨.extract (.slot 11) 0, some 18, none⟩, []⟩,
    ⟨⟨.extract (.slot 11) 1, some 19, none⟩, []⟩,
    ⟨⟨.alloc [(.int .i64 (.ofNat 0)), .nils, (.bool false)], some 6, none⟩, []⟩,
    ⟨⟨.store 3 (.slot 6) (.slot 18), none, none⟩, []⟩,
    ⟨⟨.mv (.slot 19), some 7, none⟩, []⟩])
  (.seq (.region false [⟨⟨.load true 3 (.slot 6), some 20, none⟩, []⟩,
    ⟨⟨.call (.const (.func 22 [] [])) [(.slot 20)], some 21, none⟩, []⟩,
    ⟨⟨.mv (.slot 7), some 22, none⟩, []⟩,
    ⟨⟨.store 3 (.slot 4) (.slot 21), none, none⟩, []⟩,
    ⟨⟨.mv (.slot 22), some 5, none⟩, []⟩])
  .ret)))),
  [.cell 4 true 3, .tmp 5]⟩
theorem xf8_ok : compFunc Try.prog Try.f8 = some xf8 := by kernel_rfl
/-- (*threshing/base.Base).Stack -/
def xf9 : XFunc := ⟨(.seq (.region false [⟨⟨.mv (.const .nils), some 2, none⟩, []⟩])
  (.seq (.seq (.region false [⟨⟨.mv (.slot 0), some 5, none⟩, []⟩,
    ⟨⟨.bin .eql 22 .ptr (.slot 5) (.const .nilp), some 6, none⟩, []⟩])
  (.cond (.slot 6)
   (.seq (.region false [⟨⟨.mv (.const .nils), some 2, none⟩, []⟩])
   .ret)
   .skip))
  (.seq (.region false [⟨⟨.mv (.slot 0), some 7, none⟩, []⟩,
    ⟨⟨.nilCheck (.slot 7), some 8, none⟩, []⟩,
    ⟨⟨.faddr 6 (.slot 8), some 9, none⟩, []⟩,
    ⟨⟨.load false 1 (.slot 9), some 10, none⟩, []⟩,
    ⟨⟨.call (.const (.func 30 [] [])) [(.slot 10)], some 11, none⟩, []⟩,
    ⟨⟨.mv (.slot 11), some 3, none⟩, []⟩])
  (.seq (.seq (.region false [⟨⟨.mv (.slot 3), some 12, none⟩, []⟩,
    ⟨⟨.len .slice (.slot 12), some 13, none⟩, []⟩,
    ⟨⟨.mv (.const (.int .i64 (.ofNat 0))), some 14, none⟩, []⟩])
  (.block 0 (.loop (.seq (.region false [⟨⟨.bin .lss 3 .num (.slot 14) (.slot 13), some 15, none⟩, []⟩])
   (.seq (.cond (.slot 15)
    .skip
    (.exit 0))
   (.seq (.block 1 (.seq (.region false [⟨⟨.mv (.slot 14), some 16, none⟩, []⟩,
     ⟨⟨.mv (.slot 16), some 4, none⟩, []⟩])
   (.region true [⟨⟨.mv (.slot 3), some 17, none⟩, []⟩,
     ⟨⟨.mv (.slot 4), some 18, none⟩, []⟩,
     ⟨⟨.mv (.slot 3), some 19, none⟩, []⟩,
     ⟨⟨.mv (.slot 4), some 20, none⟩, []⟩,
     ⟨⟨.mv (.slot 3), some 21, none⟩, []⟩,
     ⟨⟨.mv (.slot 4), some 22, none⟩, []⟩,
     ⟨⟨.iaddr 2 (.slot 21) (.slot 22), some 23, none⟩, []⟩,
     ⟨⟨.faddr 0 (.slot 23), some 24, none⟩, []⟩,
     ⟨⟨.load false 1 (.slot 24), some 25, none⟩, []⟩,
     ⟨⟨.mv (.slot 3), some 27, none⟩, []⟩,
     ⟨⟨.mv (.slot 4), some 28, none⟩, []⟩,
     ⟨⟨.iaddr 2 (.slot 27) (.slot 28), some 29, none⟩, []⟩,
     ⟨⟨.faddr 1 (.slot 29), some 30, none⟩, []⟩,
     ⟨⟨.load false 1 (.slot 30), some 31, none⟩, []⟩,
     ⟨⟨.call (.const (.func 27 [] [])) [(.slot 25)], some 26, none⟩, [⟨.load false 1 (.slot 30), some 31, none⟩]⟩,
     ⟨⟨.call (.const (.func 27 [] [])) [(.slot 31)], some 32, none⟩, []⟩,
     ⟨⟨.iaddr 2 (.slot 17) (.slot 18), some 33, none⟩, []⟩,
     ⟨⟨.faddr 0 (.slot 33), some 34, none⟩, []⟩,
     ⟨⟨.store 1 (.slot 34) (.slot 26), none, none⟩, []⟩,
     ⟨⟨.iaddr 2 (.slot 19) (.slot 20), some 35, none⟩, []⟩,
     ⟨⟨.faddr 1 (.slot 35), some 36, none⟩, []⟩,
     ⟨⟨.store 1 (.slot 36) (.slot 32), none, none⟩, []⟩])))
   (.region false [⟨⟨.bin .add 3 .num (.slot 14) (.const (.int .i64 (.ofNat 1))), some 37, none⟩, []⟩,
     ⟨⟨.mv (.slot 37), some 14, none⟩, []⟩])))))))
  (.seq (.region false [⟨⟨.mv (.slot 3), some 38, none⟩, []⟩,
    ⟨⟨.mv (.slot 38), some 2, none⟩, []⟩])
  .ret))))),
  [.tmp 2]⟩
theorem xf9_ok : compFunc Try.prog Try.f9 = some xf9 := by kernel_rfl
/-- threshing/threshinglaw23.works -/
def xf10 : XFunc := ⟨(.seq (.region false [⟨⟨.mv (.const (.bool false)), some 0, none⟩, []⟩])
  (.seq (.region false [⟨⟨.bslice 1 [(.int .i32 (.ofNat 0)), (.int .i32 (.ofNat 0))] [(0, 1, (.const (.int .i32 (.negSucc 0)))), (1, 1, (.const (.int .i32 (.ofNat 2))))] 2, some 5, none⟩, []⟩,
    ⟨⟨.bslice 1 [(.int .i32 (.ofNat 0)), (.int .i32 (.ofNat 0))] [(0, 1, (.const (.int .i32 (.negSucc 1)))), (1, 1, (.const (.int .i32 (.ofNat 3))))] 2, some 6, none⟩, []⟩,
    ⟨⟨.bslice 1 [(.int .i32 (.ofNat 0)), (.int .i32 (.ofNat 0))] [(0, 1, (.const (.int .i32 (.negSucc 0)))), (1, 1, (.const (.int .i32 (.ofNat 3))))] 2, some 7, none⟩, []⟩,
    ⟨⟨.bslice 1 [.nils, .nils, .nils] [(0, 1, (.slot 5)), (1, 1, (.slot 6)), (2, 1, (.slot 7))] 3, some 8, none⟩, []⟩,
    ⟨⟨.call (.const (.func 4 [] [])) [(.slot 8)], some 9, none⟩, []⟩,
    ⟨⟨.mv (.slot 9), some 1, none⟩, []⟩])
  (.seq (.region false [⟨⟨.mv (.slot 1), some 11, none⟩, []⟩,
    ⟨⟨.call (.const (.func 5 [] [])) [(.slot 11), (.const (.int .i64 (.ofNat 9)))], some 12, none⟩, []⟩,
    ⟨⟨.mv (.slot 12), some 10, none⟩, []⟩,
    ⟨⟨.extract (.slot 10) 0, some 13, none⟩, []⟩,
    ⟨⟨.extract (.slot 10) 1, some 14, none⟩, []⟩,
    ⟨⟨.mv (.slot 13), some 2, none⟩, []⟩,
    ⟨⟨.mv (.slot 14), some 3, none⟩, []⟩])
  (.seq (.region false [⟨⟨.mv (.slot 1), some 15, none⟩, []⟩,
    ⟨⟨.call (.const (.func 9 [] [])) [(.slot 15)], some 16, none⟩, []⟩,
    ⟨⟨.mv (.slot 16), some 4, none⟩, []⟩])
  (.seq (.region false [⟨⟨.mv (.slot 2), some 17, none⟩, []⟩,
    ⟨⟨.bin .eql 3 .num (.slot 17) (.const (.int .i64 (.ofNat 1))), some 18, none⟩, []⟩,
    ⟨⟨.mv (.slot 18), some 19, none⟩, []⟩,
    ⟨⟨.mv (.slot 3), some 20, some (19, true)⟩, []⟩,
    ⟨⟨.bin .eql 27 .num (.slot 20) (.const (.int .i64 (.ofNat 0))), some 21, some (19, true)⟩, []⟩,
    ⟨⟨.pick (.slot 19) (.slot 21) (.const (.bool false)), some 22, none⟩, []⟩,
    ⟨⟨.mv (.slot 22), some 23, none⟩, []⟩,
    ⟨⟨.mv (.slot 1), some 24, some (23, true)⟩, []⟩,
    ⟨⟨.call (.const (.func 6 [] [])) [(.slot 24)], some 25, some (23, true)⟩, []⟩,
    ⟨⟨.len .slice (.slot 25), some 26, some (23, true)⟩, []⟩,
    ⟨⟨.bin .eql 3 .num (.slot 26) (.const (.int .i64 (.ofNat 2))), some 27, some (23, true)⟩, []⟩,
    ⟨⟨.pick (.slot 23) (.slot 27) (.const (.bool false)), some 28, none⟩, []⟩,
    ⟨⟨.mv (.slot 28), some 29, none⟩, []⟩,
    ⟨⟨.mv (.slot 4), some 30, some (29, true)⟩, []⟩,
    ⟨⟨.len .slice (.slot 30), some 31, some (29, true)⟩, []⟩,
    ⟨⟨.bin .eql 3 .num (.slot 31) (.const (.int .i64 (.ofNat 1))), some 32, some (29, true)⟩, []⟩,
    ⟨⟨.pick (.slot 29) (.slot 32) (.const (.bool false)), some 33, none⟩, []⟩,
    ⟨⟨.mv (.slot 33), some 34, none⟩, []⟩,
    ⟨⟨.mv (.slot 4), some 35, some (34, true)⟩, []⟩,
    ⟨⟨.iaddr 2 (.slot 35) (.const (.int .i64 (.ofNat 0))), some 36, some (34, true)⟩, []⟩,
    ⟨⟨.faddr 0 (.slot 36), some 37, some (34, true)⟩, []⟩,
    ⟨⟨.load false 1 (.slot 37), some 38, some (34, true)⟩, []⟩,
    ⟨⟨.bslice 1 [(.int .i32 (.ofNat 0))] [(0, 1, (.const (.int .i32 (.negSucc 0))))] 1, some 39, some (34, true)⟩, []⟩,
    ⟨⟨.call (.const (.func 31 [] [])) [(.slot 38), (.slot 39)], some 40, some (34, true)⟩, []⟩,
    ⟨⟨.pick (.slot 34) (.slot 40) (.const (.bool false)), some 41, none⟩, []⟩,
    ⟨⟨.mv (.slot 41), some 42, none⟩, []⟩,
    ⟨⟨.mv (.slot 4), some 43, some (42, true)⟩, []⟩,
    ⟨⟨.iaddr 2 (.slot 43) (.const (.int .i64 (.ofNat 0))), some 44, some (42, true)⟩, []⟩,
    ⟨⟨.faddr 1 (.slot 44), some 45, some (42, true)⟩, []⟩,
    ⟨⟨.load false 1 (.slot 45), some 46, some (42, true)⟩, []⟩,
    ⟨⟨.bslice 1 [(.int .i32 (.ofNat 0)), (.int .i32 (.ofNat 0))] [(0, 1, (.const (.int .i32 (.negSucc 0)))), (1, 1, (.const (.int .i32 (.ofNat 3))))] 2, some 47, some (42, true)⟩, []⟩,
    ⟨⟨.call (.const (.func 31 [] [])) [(.slot 46), (.slot 47)], some 48, some (42, true)⟩, []⟩,
    ⟨⟨.pick (.slot 42) (.slot 48) (.const (.bool false)), some 49, none⟩, []⟩,
    ⟨⟨.mv (.slot 49), some 0, none⟩, []⟩])
  .ret))))),
  [.tmp 0]⟩
theorem xf10_ok : compFunc Try.prog Try.f10 = some xf10 := by kernel_rfl
/-- threshing/base.New -/
def xf11 : XFunc := ⟨(.seq (.region false [⟨⟨.box (.slot 0), some 1, none⟩, []⟩,
    ⟨⟨.mv (.const .nilp), some 2, none⟩, []⟩,
    ⟨⟨.mv (.const (.int .i64 (.ofNat 0))), some 3, none⟩, []⟩])
  (.seq (.seq (.region false [⟨⟨.load true 2 (.slot 1), some 8, none⟩, []⟩,
    ⟨⟨.call (.const (.func 32 [] [])) [(.slot 8)], some 9, none⟩, []⟩,
    ⟨⟨.mv (.slot 9), some 4, none⟩, []⟩])
  (.seq (.region false [⟨⟨.mv (.slot 4), some 10, none⟩, []⟩,
    ⟨⟨.bin .neq 27 .num (.slot 10) (.const (.int .i64 (.ofNat 0))), some 11, none⟩, []⟩])
  (.cond (.slot 11)
   (.seq (.region false [⟨⟨.mv (.slot 4), some 12, none⟩, []⟩,
     ⟨⟨.mv (.const .nilp), some 2, none⟩, []⟩,
     ⟨⟨.mv (.slot 12), some 3, none⟩, []⟩])
   .ret)
   .skip)))
  (.seq (.region false [⟨⟨.faddr 0 (.slot 1), some 13, none⟩, []⟩,
    ⟨⟨.load false 1 (.slot 13), some 14, none⟩, []⟩,
    ⟨⟨.mkmap .i64, some 15, none⟩, []⟩,
    ⟨⟨.mkmap .i32, some 16, none⟩, []⟩,
    ⟨⟨.mkmap .i64, some 17, none⟩, []⟩,
    ⟨⟨.build [(.int .i64 (.ofNat 0)), .nilm, .nilm, .nilm, (.int .i64 (.ofNat 0)), .nils, .nils, .nils] [(0, 1, (.slot 14)), (1, 1, (.slot 15)), (2, 1, (.slot 16)), (3, 1, (.slot 17))], some 18, none⟩, []⟩,
    ⟨⟨.box (.slot 18), some 19, none⟩, []⟩,
    ⟨⟨.mv (.slot 19), some 5, none⟩, []⟩])
  (.seq (.seq (.region false [⟨⟨.faddr 1 (.slot 1), some 20, none⟩, []⟩,
    ⟨⟨.load false 1 (.slot 20), some 21, none⟩, []⟩,
    ⟨⟨.len .slice (.slot 21), some 22, none⟩, []⟩,
    ⟨⟨.mv (.const (.int .i64 (.ofNat 0))), some 23, none⟩, []⟩])
  (.block 0 (.loop (.seq (.region false [⟨⟨.bin .lss 3 .num (.slot 23) (.slot 22), some 24, none⟩, []⟩])
   (.seq (.cond (.slot 24)
    .skip
    (.exit 0))
   (.seq (.block 1 (.seq (.region false [⟨⟨.iaddr 1 (.slot 21) (.slot 23), some 25, none⟩, []⟩,
     ⟨⟨.load false 1 (.slot 25), some 26, none⟩, []⟩,
     ⟨⟨.mv (.slot 26), some 7, none⟩, []⟩])
   (.region false [⟨⟨.mv (.slot 5), some 27, none⟩, []⟩,
     ⟨⟨.mv (.slot 7), some 28, none⟩, []⟩,
     ⟨⟨.call (.const (.func 26 [] [])) [(.slot 27), (.slot 28), (.const (.bool false))], some 29, none⟩, []⟩])))
   (.region false [⟨⟨.bin .add 3 .num (.slot 23) (.const (.int .i64 (.ofNat 1))), some 30, none⟩, []⟩,
     ⟨⟨.mv (.slot 30), some 23, none⟩, []⟩])))))))
  (.seq (.region false [⟨⟨.mv (.slot 5), some 31, none⟩, []⟩,
    ⟨⟨.mv (.slot 31), some 2, none⟩, []⟩,
    ⟨⟨.mv (.const (.int .i64 (.ofNat 0))), some 3, none⟩, []⟩])
  .ret))))),
  [.tmp 2, .tmp 3]⟩
theorem xf11_ok : compFunc Try.prog Try.f11 = some xf11 := by kernel_rfl
/-- threshing/transred.pairs -/
def xf12 : XFunc := ⟨(.seq (.region false [⟨⟨.box (.slot 0), some 1, none⟩, []⟩,
    ⟨⟨.mv (.const .nilf), some 2, none⟩, []⟩])
  (.seq (.region false [⟨⟨.mkfunc 33 [] [(.slot 1)], some 3, none⟩, []⟩,
    ⟨⟨.mv (.slot 3), some 2, none⟩, []⟩])
  .ret)),
  [.tmp 2]⟩
theorem xf12_ok : compFunc Try.prog Try.f12 = some xf12 := by kernel_rfl
/-- slices.Clone[[]threshing/transred.pair,threshing/transred.pair] -/
def xf13 : XFunc := ⟨(.seq (.region false [⟨⟨.mv (.const .nils), some 2, none⟩, []⟩])
  (.seq (.seq (.region false [⟨⟨.mv (.slot 0), some 3, none⟩, []⟩,
    ⟨⟨.bin .eql 47 .slice (.slot 3) (.const .nils), some 4, none⟩, []⟩])
  (.cond (.slot 4)
   (.seq (.region false [⟨⟨.mv (.const .nils), some 2, none⟩, []⟩])
   .ret)
   .skip))
  (.seq (.region false [⟨⟨.bslice 5 [] [] 0, some 5, none⟩, []⟩,
    ⟨⟨.mv (.slot 0), some 6, none⟩, []⟩,
    ⟨⟨.append 5 48 (.slot 5) (.slot 6), some 7, none⟩, []⟩,
    ⟨⟨.mv (.slot 7), some 2, none⟩, []⟩])
  .ret))),
  [.tmp 2]⟩
theorem xf13_ok : compFunc Try.prog Try.f13 = some xf13 := by kernel_rfl
/-- threshing/transred.bridge -/
def xf14 : XFunc := ⟨(.seq (.region false [⟨⟨.box (.slot 0), some 2, none⟩, []⟩,
    ⟨⟨.box (.slot 1), some 3, none⟩, []⟩,
    ⟨⟨.mv (.const .nils), some 4, none⟩, []⟩])
  (.seq (.region false [⟨⟨.faddr 0 (.slot 3), some 11, none⟩, []⟩,
    ⟨⟨.faddr 1 (.slot 11), some 12, none⟩, []⟩,
    ⟨⟨.load false 1 (.slot 12), some 13, none⟩, []⟩,
    ⟨⟨.iaddr 1 (.slot 13) (.const (.int .i64 (.ofNat 0))), some 14, none⟩, []⟩,
    ⟨⟨.load false 1 (.slot 14), some 15, none⟩, []⟩,
    ⟨⟨.mv (.slot 15), some 5, none⟩, []⟩])
  (.seq (.region false [⟨⟨.faddr 3 (.slot 3), some 16, none⟩, []⟩,
    ⟨⟨.load false 1 (.slot 16), some 17, none⟩, []⟩,
    ⟨⟨.mv (.slot 17), some 6, none⟩, []⟩])
  (.seq (.seq (.region false [⟨⟨.mv (.slot 6), some 18, none⟩, []⟩,
    ⟨⟨.mv (.slot 5), some 19, none⟩, []⟩,
    ⟨⟨.bin .eql 24 .num (.slot 18) (.slot 19), some 20, none⟩, []⟩])
  (.cond (.slot 20)
   (.region false [⟨⟨.faddr 4 (.slot 3), some 21, none⟩, []⟩,
     ⟨⟨.load false 1 (.slot 21), some 22, none⟩, []⟩,
     ⟨⟨.mv (.slot 22), some 6, none⟩, []⟩])
   .skip))
  (.seq (.region false [⟨⟨.mkmap .i32, some 23, none⟩, []⟩,
    ⟨⟨.mv (.slot 5), some 24, none⟩, []⟩,
    ⟨⟨.un .neg (.slot 24), some 25, none⟩, []⟩,
    ⟨⟨.mapup .i32 (.slot 23) (.slot 25) (.const (.bool true)), none, none⟩, []⟩,
    ⟨⟨.mv (.slot 23), some 26, none⟩, []⟩,
    ⟨⟨.alloc [.nilm], some 7, none⟩, []⟩,
    ⟨⟨.store 1 (.slot 7) (.slot 26), none, none⟩, []⟩])
  (.seq (.region false [⟨⟨.alloc [.nils], some 8, none⟩, []⟩])
  (.seq (.region false [⟨⟨.mkfunc 35 [] [(.slot 2), (.slot 3), (.slot 7), (.slot 8)], some 27, none⟩, []⟩,
    ⟨⟨.mv (.slot 27), some 9, none⟩, []⟩])
  (.seq (.seq (.region false [⟨⟨.mv (.slot 9), some 28, none⟩, []⟩,
    ⟨⟨.call (.slot 28) [], some 29, none⟩, []⟩,
    ⟨⟨.mv (.slot 29), some 10, none⟩, []⟩])
  (.block 0 (.loop (.seq (.seq (.region false [⟨⟨.mv (.slot 10), some 30, none⟩, []⟩,
     ⟨⟨.bin .neq 24 .num (.slot 30) (.const (.int .i32 (.ofNat 0))), some 31, none⟩, []⟩])
   (.cond (.slot 31)
    .skip
    (.exit 0)))
   (.seq (.block 1 (.seq (.seq (.region false [⟨⟨.mv (.slot 10), some 34, none⟩, []⟩,
     ⟨⟨.mv (.slot 6), some 35, none⟩, []⟩,
     ⟨⟨.bin .eql 24 .num (.slot 34) (.slot 35), some 36, none⟩, []⟩])
   (.cond (.slot 36)
    (.seq (.region false [⟨⟨.load false 1 (.slot 8), some 37, none⟩, []⟩,
      ⟨⟨.mv (.slot 37), some 4, none⟩, []⟩])
    .ret)
    .skip))
   (.region false [⟨⟨.load false 1 (.slot 7), some 38, none⟩, []⟩,
     ⟨⟨.mv (.slot 10), some 39, none⟩, []⟩,
     ⟨⟨.mapup .i32 (.slot 38) (.slot 39) (.const (.bool true)), none, none⟩, []⟩])))
   (.region false [⟨⟨.mv (.slot 9), some 32, none⟩, []⟩,
     ⟨⟨.call (.slot 32) [], some 33, none⟩, []⟩,
     ⟨⟨.mv (.slot 33), some 10, none⟩, []⟩]))))))
  (.seq (.region false [⟨⟨.mv (.const .nils), some 4, none⟩, []⟩])
  .ret))))))))),
  [.tmp 4]⟩
theorem xf14_ok : compFunc Try.prog Try.f14 = some xf14 := by kernel_rfl
/-- (*threshing/base.Base).Delete -/
def xf15 : XFunc := ⟨(.seq (.region false [⟨⟨.mv (.const (.int .i64 (.ofNat 0))), some 4, none⟩, []⟩])
  (.seq (.seq (.region false [⟨⟨.mv (.slot 0), some 8, none⟩, []⟩,
    ⟨⟨.bin .eql 22 .ptr (.slot 8) (.const .nilp), some 9, none⟩, []⟩])
  (.cond (.slot 9)
   (.seq (.region false [⟨⟨.mv (.const (.int .i64 (.ofNat 1))), some 4, none⟩, []⟩])
   .ret)
   .skip))
  (.seq (.region false [⟨⟨.mv (.slot 0), some 11, none⟩, []⟩,
    ⟨⟨.nilCheck (.slot 11), some 12, none⟩, []⟩,
    ⟨⟨.faddr 1 (.slot 12), some 13, none⟩, []⟩,
    ⟨⟨.load false 1 (.slot 13), some 14, none⟩, []⟩,
    ⟨⟨.mv (.slot 1), some 15, none⟩, []⟩,
    ⟨⟨.lookup .i64 (.agg [(.int .i64 (.ofNat 0)), .nils, (.bool false)]) (.slot 14) (.slot 15) true, some 16, none⟩, []⟩,
    ⟨⟨.mv (.slot 16), some 10, none⟩, []⟩,
    ⟨⟨.extract (.slot 10) 0, some 17, none⟩, []⟩,
    ⟨⟨.extract (.slot 10) 1, some 18, none⟩, []⟩,
    ⟨⟨.alloc [(.int .i64 (.ofNat 0)), .nils, (.bool false)], some 5, none⟩, []⟩,
    ⟨⟨.store 3 (.slot 5) (.slot 17), none, none⟩, []⟩,
    ⟨⟨.mv (.slot 18), some 6, none⟩, []⟩])
  (.seq (.block 0 (.seq (.region false [⟨⟨.mv (.slot 6), some 20, none⟩, []⟩,
    ⟨⟨.un .not (.slot 20), some 21, none⟩, []⟩,
    ⟨⟨.mv (.slot 21), some 19, none⟩, []⟩])
  (.cond (.slot 19)
   (.seq (.region false [⟨⟨.mv (.const (.int .i64 (.ofNat 5))), some 4, none⟩, []⟩])
   .ret)
   (.seq (.region false [⟨⟨.faddr 2 (.slot 5), some 23, none⟩, []⟩,
     ⟨⟨.load false 1 (.slot 23), some 24, none⟩, []⟩,
     ⟨⟨.un .not (.slot 24), some 25, none⟩, []⟩,
     ⟨⟨.mv (.slot 25), some 22, none⟩, []⟩])
   (.cond (.slot 22)
    (.seq (.region false [⟨⟨.mv (.const (.int .i64 (.ofNat 7))), some 4, none⟩, []⟩])
    .ret)
    .skip)))))
  (.seq (.seq (.region false [⟨⟨.mv (.slot 0), some 26, none⟩, []⟩,
    ⟨⟨.load true 3 (.slot 5), some 27, none⟩, []⟩,
    ⟨⟨.call (.const (.func 36 [] [])) [(.slot 26), (.slot 27)], some 28, none⟩, []⟩,
    ⟨⟨.mv (.slot 28), some 7, none⟩, []⟩])
  (.seq (.region false [⟨⟨.mv (.slot 7), some 29, none⟩, []⟩,
    ⟨⟨.bin .neq 27 .num (.slot 29) (.const (.int .i64 (.ofNat 0))), some 30, none⟩, []⟩])
  (.cond (.slot 30)
   (.seq (.region false [⟨⟨.mv (.slot 7), some 31, none⟩, []⟩,
     ⟨⟨.mv (.slot 31), some 4, none⟩, []⟩])
   .ret)
   .skip)))
  (.seq (.region false [⟨⟨.mv (.slot 0), some 32, none⟩, []⟩,
    ⟨⟨.mv (.slot 1), some 33, none⟩, []⟩,
    ⟨⟨.build [(.int .u8 (.ofNat 0)), (.int .i64 (.ofNat 0)), (.int .i64 (.ofNat 0)), (.bool false), .nils, .nils] [(0, 1, (.const (.int .u8 (.ofNat 3)))), (1, 1, (.slot 33))], some 34, none⟩, []⟩,
    ⟨⟨.call (.const (.func 29 [] [])) [(.slot 32), (.slot 34)], some 35, none⟩, []⟩,
    ⟨⟨.mv (.slot 35), some 4, none⟩, []⟩])
  .ret)))))),
  [.tmp 4]⟩
theorem xf15_ok : compFunc Try.prog Try.f15 = some xf15 := by kernel_rfl
/-- (*threshing/base.Base).Keep -/
def xf16 : XFunc := ⟨(.seq (.region false [⟨⟨.mv (.const (.int .i64 (.ofNat 0))), some 4, none⟩, []⟩])
  (.seq (.seq (.region false [⟨⟨.mv (.slot 0), some 7, none⟩, []⟩,
    ⟨⟨.bin .eql 22 .ptr (.slot 7) (.const .nilp), some 8, none⟩, []⟩])
  (.cond (.slot 8)
   (.seq (.region false [⟨⟨.mv (.const (.int .i64 (.ofNat 1))), some 4, none⟩, []⟩])
   .ret)
   .skip))
  (.seq (.region false [⟨⟨.mv (.slot 0), some 10, none⟩, []⟩,
    ⟨⟨.nilCheck (.slot 10), some 11, none⟩, []⟩,
    ⟨⟨.faddr 1 (.slot 11), some 12, none⟩, []⟩,
    ⟨⟨.load false 1 (.slot 12), some 13, none⟩, []⟩,
    ⟨⟨.mv (.slot 1), some 14, none⟩, []⟩,
    ⟨⟨.lookup .i64 (.agg [(.int .i64 (.ofNat 0)), .nils, (.bool false)]) (.slot 13) (.slot 14) true, some 15, none⟩, []⟩,
    ⟨⟨.mv (.slot 15), some 9, none⟩, []⟩,
    ⟨⟨.extract (.slot 9) 0, some 16, none⟩, []⟩,
    ⟨⟨.extract (.slot 9) 1, some 17, none⟩, []⟩,
    ⟨⟨.alloc [(.int .i64 (.ofNat 0)), .nils, (.bool false)], some 5, none⟩, []⟩,
    ⟨⟨.store 3 (.slot 5) (.slot 16), none, none⟩, []⟩,
    ⟨⟨.mv (.slot 17), some 6, none⟩, []⟩])
  (.seq (.seq (.region false [⟨⟨.mv (.slot 6), some 18, none⟩, []⟩,
    ⟨⟨.un .not (.slot 18), some 19, none⟩, []⟩])
  (.cond (.slot 19)
   (.seq (.region false [⟨⟨.mv (.const (.int .i64 (.ofNat 5))), some 4, none⟩, []⟩])
   .ret)
   .skip))
  (.seq (.region false [⟨⟨.mv (.slot 0), some 20, none⟩, []⟩,
    ⟨⟨.load true 3 (.slot 5), some 21, none⟩, []⟩,
    ⟨⟨.call (.const (.func 37 [] [])) [(.slot 20), (.slot 21)], some 22, none⟩, []⟩])
  (.seq (.region false [⟨⟨.mv (.slot 0), some 23, none⟩, []⟩,
    ⟨⟨.mv (.slot 1), some 24, none⟩, []⟩,
    ⟨⟨.build [(.int .u8 (.ofNat 0)), (.int .i64 (.ofNat 0)), (.int .i64 (.ofNat 0)), (.bool false), .nils, .nils] [(0, 1, (.const (.int .u8 (.ofNat 2)))), (1, 1, (.slot 24))], some 25, none⟩, []⟩,
    ⟨⟨.call (.const (.func 29 [] [])) [(.slot 23), (.slot 25)], some 26, none⟩, []⟩,
    ⟨⟨.mv (.slot 26), some 4, none⟩, []⟩])
  .ret)))))),
  [.tmp 4]⟩
theorem xf16_ok : compFunc Try.prog Try.f16 = some xf16 := by kernel_rfl
/-- (*threshing/base.Base).Weaken -/
def xf17 : XFunc := ⟨(.seq (.region false [⟨⟨.mv (.const (.int .i64 (.ofNat 0))), some 6, none⟩, []⟩])
  (.seq (.seq (.region false [⟨⟨.mv (.slot 0), some 10, none⟩, []⟩,
    ⟨⟨.bin .eql 22 .ptr (.slot 10) (.const .nilp), some 11, none⟩, []⟩])
  (.cond (.slot 11)
   (.seq (.region false [⟨⟨.mv (.const (.int .i64 (.ofNat 1))), some 6, none⟩, []⟩])
   .ret)
   .skip))
  (.seq (.region false [⟨⟨.mv (.slot 0), some 13, none⟩, []⟩,
    ⟨⟨.nilCheck (.slot 13), some 14, none⟩, []⟩,
    ⟨⟨.faddr 1 (.slot 14), some 15, none⟩, []⟩,
    ⟨⟨.load false 1 (.slot 15), some 16, none⟩, []⟩,
    ⟨⟨.mv (.slot 1), some 17, none⟩, []⟩,
    ⟨⟨.lookup .i64 (.agg [(.int .i64 (.ofNat 0)), .nils, (.bool false)]) (.slot 16) (.slot 17) true, some 18, none⟩, []⟩,
    ⟨⟨.mv (.slot 18), some 12, none⟩, []⟩,
    ⟨⟨.extract (.slot 12) 0, some 19, none⟩, []⟩,
    ⟨⟨.extract (.slot 12) 1, some 20, none⟩, []⟩,
    ⟨⟨.alloc [(.int .i64 (.ofNat 0)), .nils, (.bool false)], some 7, none⟩, []⟩,
    ⟨⟨.store 3 (.slot 7) (.slot 19), none, none⟩, []⟩,
    ⟨⟨.mv (.slot 20), some 8, none⟩, []⟩])
  (.seq (.block 0 (.seq (.region false [⟨⟨.mv (.slot 8), some 22, none⟩, []⟩,
    ⟨⟨.un .not (.slot 22), some 23, none⟩, []⟩,
    ⟨⟨.mv (.slot 23), some 21, none⟩, []⟩])
  (.cond (.slot 21)
   (.seq (.region false [⟨⟨.mv (.const (.int .i64 (.ofNat 5))), some 6, none⟩, []⟩])
   .ret)
   (.seq (.region false [⟨⟨.faddr 2 (.slot 7), some 25, none⟩, []⟩,
     ⟨⟨.load false 1 (.slot 25), some 26, none⟩, []⟩,
     ⟨⟨.mv (.slot 26), some 24, none⟩, []⟩])
   (.cond (.slot 24)
    (.seq (.region false [⟨⟨.mv (.const (.int .i64 (.ofNat 7))), some 6, none⟩, []⟩])
    .ret)
    (.seq (.region false [⟨⟨.mv (.slot 0), some 28, none⟩, []⟩,
      ⟨⟨.mv (.slot 2), some 29, none⟩, []⟩,
      ⟨⟨.call (.const (.func 24 [] [])) [(.slot 28), (.slot 29)], some 30, none⟩, []⟩,
      ⟨⟨.un .not (.slot 30), some 31, none⟩, []⟩,
      ⟨⟨.mv (.slot 31), some 27, none⟩, []⟩])
    (.cond (.slot 27)
     (.seq (.region false [⟨⟨.mv (.const (.int .i64 (.ofNat 4))), some 6, none⟩, []⟩])
     .ret)
     (.seq (.seq (.region false [⟨⟨.mv (.slot 2), some 33, none⟩, []⟩,
       ⟨⟨.len .slice (.slot 33), some 34, none⟩, []⟩,
       ⟨⟨.bin .eql 3 .num (.slot 34) (.const (.int .i64 (.ofNat 0))), some 35, none⟩, []⟩,
       ⟨⟨.mv (.slot 35), some 32, none⟩, []⟩])
     (.cond (.slot 32)
      .skip
      (.seq (.region false [⟨⟨.mv (.slot 2), some 36, none⟩, []⟩,
        ⟨⟨.call (.const (.func 38 [] [])) [(.slot 36)], some 37, none⟩, []⟩,
        ⟨⟨.mv (.slot 37), some 32, none⟩, []⟩])
      (.cond (.slot 32)
       .skip
       (.region true [⟨⟨.faddr 1 (.slot 7), some 38, none⟩, []⟩,
         ⟨⟨.load false 1 (.slot 38), some 39, none⟩, []⟩,
         ⟨⟨.mv (.slot 2), some 40, none⟩, []⟩,
         ⟨⟨.iaddr 1 (.slot 40) (.const (.int .i64 (.ofNat 0))), some 41, none⟩, []⟩,
         ⟨⟨.load false 1 (.slot 41), some 42, none⟩, []⟩,
         ⟨⟨.call (.const (.func 39 [] [])) [(.slot 39), (.slot 42)], some 43, none⟩, []⟩,
         ⟨⟨.un .not (.slot 43), some 44, none⟩, []⟩,
         ⟨⟨.mv (.slot 44), some 32, none⟩, []⟩])))))
     (.cond (.slot 32)
      (.seq (.region false [⟨⟨.mv (.const (.int .i64 (.ofNat 2))), some 6, none⟩, []⟩])
      .ret)
      .skip)))))))))
  (.seq (.seq (.region false [⟨⟨.mv (.slot 0), some 45, none⟩, []⟩,
    ⟨⟨.load true 3 (.slot 7), some 46, none⟩, []⟩,
    ⟨⟨.call (.const (.func 36 [] [])) [(.slot 45), (.slot 46)], some 47, none⟩, []⟩,
    ⟨⟨.mv (.slot 47), some 9, none⟩, []⟩])
  (.seq (.region false [⟨⟨.mv (.slot 9), some 48, none⟩, []⟩,
    ⟨⟨.bin .neq 27 .num (.slot 48) (.const (.int .i64 (.ofNat 0))), some 49, none⟩, []⟩])
  (.cond (.slot 49)
   (.seq (.region false [⟨⟨.mv (.slot 9), some 50, none⟩, []⟩,
     ⟨⟨.mv (.slot 50), some 6, none⟩, []⟩])
   .ret)
   .skip)))
  (.seq (.region true [⟨⟨.mv (.slot 0), some 51, none⟩, []⟩,
    ⟨⟨.mv (.slot 0), some 52, none⟩, []⟩,
    ⟨⟨.nilCheck (.slot 52), some 53, none⟩, []⟩,
    ⟨⟨.faddr 6 (.slot 53), some 54, none⟩, []⟩,
    ⟨⟨.load false 1 (.slot 54), some 55, none⟩, []⟩,
    ⟨⟨.mv (.slot 2), some 56, none⟩, []⟩,
    ⟨⟨.faddr 1 (.slot 7), some 58, none⟩, []⟩,
    ⟨⟨.load false 1 (.slot 58), some 59, none⟩, []⟩,
    ⟨⟨.call (.const (.func 27 [] [])) [(.slot 56)], some 57, none⟩, [⟨.load false 1 (.slot 54), some 55, none⟩, ⟨.load false 1 (.slot 58), some 59, none⟩]⟩,
    ⟨⟨.call (.const (.func 27 [] [])) [(.slot 59)], some 60, none⟩, [⟨.load false 1 (.slot 54), some 55, none⟩]⟩,
    ⟨⟨.build [.nils, .nils] [(0, 1, (.slot 57)), (1, 1, (.slot 60))], some 61, none⟩, []⟩,
    ⟨⟨.bslice 2 [.nils, .nils] [(0, 2, (.slot 61))] 1, some 62, none⟩, [⟨.load false 1 (.slot 54), some 55, none⟩]⟩,
    ⟨⟨.append 2 48 (.slot 55) (.slot 62), some 63, none⟩, []⟩,
    ⟨⟨.nilCheck (.slot 51), some 64, none⟩, []⟩,
    ⟨⟨.faddr 6 (.slot 64), some 65, none⟩, []⟩,
    ⟨⟨.store 1 (.slot 65) (.slot 63), none, none⟩, []⟩])
  (.seq (.region false [⟨⟨.mv (.slot 0), some 66, none⟩, []⟩,
    ⟨⟨.mv (.slot 1), some 67, none⟩, []⟩,
    ⟨⟨.mv (.slot 2), some 68, none⟩, []⟩,
    ⟨⟨.call (.const (.func 27 [] [])) [(.slot 68)], some 69, none⟩, []⟩,
    ⟨⟨.build [(.int .u8 (.ofNat 0)), (.int .i64 (.ofNat 0)), (.int .i64 (.ofNat 0)), (.bool false), .nils, .nils] [(0, 1, (.const (.int .u8 (.ofNat 5)))), (1, 1, (.slot 67)), (4, 1, (.slot 69))], some 70, none⟩, []⟩,
    ⟨⟨.call (.const (.func 29 [] [])) [(.slot 66), (.slot 70)], some 71, none⟩, []⟩,
    ⟨⟨.mv (.slot 71), some 6, none⟩, []⟩])
  .ret))))))),
  [.tmp 6]⟩
theorem xf17_ok : compFunc Try.prog Try.f17 = some xf17 := by kernel_rfl
/-- slices.DeleteFunc[[]threshing/transred.pair,threshing/transred.pair] -/
def xf18 : XFunc := ⟨(.seq (.region false [⟨⟨.mv (.const .nils), some 4, none⟩, []⟩])
  (.seq (.region false [⟨⟨.mv (.slot 0), some 8, none⟩, []⟩,
    ⟨⟨.mv (.slot 1), some 9, none⟩, []⟩,
    ⟨⟨.call (.const (.func 40 [] [])) [(.slot 8), (.slot 9)], some 10, none⟩, []⟩,
    ⟨⟨.mv (.slot 10), some 5, none⟩, []⟩])
  (.seq (.seq (.region false [⟨⟨.mv (.slot 5), some 11, none⟩, []⟩,
    ⟨⟨.bin .eql 3 .num (.slot 11) (.const (.int .i64 (.negSucc 0))), some 12, none⟩, []⟩])
  (.cond (.slot 12)
   (.seq (.region false [⟨⟨.mv (.slot 0), some 13, none⟩, []⟩,
     ⟨⟨.mv (.slot 13), some 4, none⟩, []⟩])
   .ret)
   .skip))
  (.seq (.seq (.region false [⟨⟨.mv (.slot 5), some 14, none⟩, []⟩,
    ⟨⟨.bin .add 3 .num (.slot 14) (.const (.int .i64 (.ofNat 1))), some 15, none⟩, []⟩,
    ⟨⟨.mv (.slot 15), some 6, none⟩, []⟩])
  (.block 0 (.loop (.seq (.seq (.region false [⟨⟨.mv (.slot 6), some 16, none⟩, []⟩,
     ⟨⟨.mv (.slot 0), some 17, none⟩, []⟩,
     ⟨⟨.len .slice (.slot 17), some 18, none⟩, []⟩,
     ⟨⟨.bin .lss 3 .num (.slot 16) (.slot 18), some 19, none⟩, []⟩])
   (.cond (.slot 19)
    .skip
    (.exit 0)))
   (.seq (.block 1 (.seq (.region false [⟨⟨.mv (.slot 0), some 22, none⟩, []⟩,
     ⟨⟨.mv (.slot 6), some 23, none⟩, []⟩,
     ⟨⟨.iaddr 5 (.slot 22) (.slot 23), some 24, none⟩, []⟩,
     ⟨⟨.load true 5 (.slot 24), some 25, none⟩, []⟩,
     ⟨⟨.alloc [(.int .i64 (.ofNat 0)), .nils, (.bool false), (.int .i32 (.ofNat 0)), (.int .i32 (.ofNat 0))], some 7, none⟩, []⟩,
     ⟨⟨.store 5 (.slot 7) (.slot 25), none, none⟩, []⟩])
   (.seq (.region false [⟨⟨.mv (.slot 1), some 26, none⟩, []⟩,
     ⟨⟨.load true 5 (.slot 7), some 27, none⟩, []⟩,
     ⟨⟨.call (.slot 26) [(.slot 27)], some 28, none⟩, []⟩,
     ⟨⟨.un .not (.slot 28), some 29, none⟩, []⟩])
   (.cond (.slot 29)
    (.seq (.region false [⟨⟨.mv (.slot 0), some 30, none⟩, []⟩,
      ⟨⟨.mv (.slot 5), some 31, none⟩, []⟩,
      ⟨⟨.load true 5 (.slot 7), some 32, none⟩, []⟩,
      ⟨⟨.iaddr 5 (.slot 30) (.slot 31), some 33, none⟩, []⟩,
      ⟨⟨.store 5 (.slot 33) (.slot 32), none, none⟩, []⟩])
    (.region false [⟨⟨.mv (.slot 5), some 34, none⟩, []⟩,
      ⟨⟨.bin .add 3 .num (.slot 34) (.const (.int .i64 (.ofNat 1))), some 35, none⟩, []⟩,
      ⟨⟨.mv (.slot 35), some 5, none⟩, []⟩]))
    .skip))))
   (.region false [⟨⟨.mv (.slot 6), some 20, none⟩, []⟩,
     ⟨⟨.bin .add 3 .num (.slot 20) (.const (.int .i64 (.ofNat 1))), some 21, none⟩, []⟩,
     ⟨⟨.mv (.slot 21), some 6, none⟩, []⟩]))))))
  (.seq (.region false [⟨⟨.mv (.slot 0), some 36, none⟩, []⟩,
    ⟨⟨.mv (.slot 5), some 37, none⟩, []⟩,
    ⟨⟨.slc 5 (.slot 36) (some (.slot 37)) none none, some 38, none⟩, []⟩,
    ⟨⟨.clear [(.int .i64 (.ofNat 0)), .nils, (.bool false), (.int .i32 (.ofNat 0)), (.int .i32 (.ofNat 0))] (.slot 38), none, none⟩, []⟩])
  (.seq (.region false [⟨⟨.mv (.slot 0), some 39, none⟩, []⟩,
    ⟨⟨.mv (.slot 5), some 40, none⟩, []⟩,
    ⟨⟨.slc 5 (.slot 39) none (some (.slot 40)) none, some 41, none⟩, []⟩,
    ⟨⟨.mv (.slot 41), some 4, none⟩, []⟩])
  .ret)))))),
  [.tmp 4]⟩
theorem xf18_ok : compFunc Try.prog Try.f18 = some xf18 := by kernel_rfl
/-- threshing/transred.Transred$1 -/
def xf19 : XFunc := ⟨(.seq (.region false [⟨⟨.box (.slot 0), some 2, none⟩, []⟩,
    ⟨⟨.mv (.const (.bool false)), some 3, none⟩, []⟩])
  (.seq (.region false [⟨⟨.faddr 0 (.slot 2), some 4, none⟩, []⟩,
    ⟨⟨.faddr 0 (.slot 4), some 5, none⟩, []⟩,
    ⟨⟨.load false 1 (.slot 5), some 6, none⟩, []⟩,
    ⟨⟨.faddr 0 (.slot 1), some 7, none⟩, []⟩,
    ⟨⟨.faddr 0 (.slot 7), some 8, none⟩, []⟩,
    ⟨⟨.load false 1 (.slot 8), some 9, none⟩, []⟩,
    ⟨⟨.bin .eql 2 .num (.slot 6) (.slot 9), some 10, none⟩, []⟩,
    ⟨⟨.mv (.slot 10), some 3, none⟩, []⟩])
  .ret)),
  [.tmp 3]⟩
theorem xf19_ok : compFunc Try.prog Try.f19 = some xf19 := by kernel_rfl
end Go.Proofs.Ytljgcmlfcacpkaa

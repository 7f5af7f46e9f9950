/- The functions of the program in X's code, printed by a program of ours; each is what the program's own is turned to. -/
import Derived.Test.YtaljkapnfkbdbaaProg
import Derived.Test.YtaljkapnfkbdbaaW0
import Derived.KernelRfl
namespace Go.Proofs.Ytaljkapnfkbdbaa
open Go.Xr
/- gosem.cut.init -/
def r2_0 : List XLine := [⟨⟨.call (.const (.func 1 [] [])) [], some 0, none⟩, []⟩]
def xf2 : XFunc := ⟨(.region false r2_0),
  []⟩
theorem xf2_ok : compFunc Try.prog Try.f2 = some xf2 := by kernel_rfl
/- threshing/threshinglaw28.BlockedKnown -/
def r3_0 : List XLine := [⟨⟨.mv (.const (.bool false)), some 0, none⟩, []⟩]
def r3_1 : List XLine := [⟨⟨.bslice 1 [(.int .i32 (.ofNat 0)), (.int .i32 (.ofNat 0))] [(0, 1, (.const (.int .i32 (.ofNat 1)))), (1, 1, (.const (.int .i32 (.ofNat 2))))] 2, some 24, none⟩, []⟩,
  ⟨⟨.bslice 1 [(.int .i32 (.ofNat 0)), (.int .i32 (.ofNat 0))] [(0, 1, (.const (.int .i32 (.ofNat 1)))), (1, 1, (.const (.int .i32 (.negSucc 1))))] 2, some 25, none⟩, []⟩,
  ⟨⟨.bslice 1 [(.int .i32 (.ofNat 0)), (.int .i32 (.ofNat 0))] [(0, 1, (.const (.int .i32 (.negSucc 0)))), (1, 1, (.const (.int .i32 (.ofNat 2))))] 2, some 26, none⟩, []⟩,
  ⟨⟨.bslice 1 [(.int .i32 (.ofNat 0)), (.int .i32 (.ofNat 0))] [(0, 1, (.const (.int .i32 (.negSucc 0)))), (1, 1, (.const (.int .i32 (.negSucc 1))))] 2, some 27, none⟩, []⟩,
  ⟨⟨.bslice 1 [.nils, .nils, .nils, .nils] [(0, 1, (.slot 24)), (1, 1, (.slot 25)), (2, 1, (.slot 26)), (3, 1, (.slot 27))] 4, some 28, none⟩, []⟩,
  ⟨⟨.call (.const (.func 4 [] [])) [(.slot 28)], some 29, none⟩, []⟩,
  ⟨⟨.mv (.slot 29), some 1, none⟩, []⟩]
def r3_2 : List XLine := [⟨⟨.mv (.slot 1), some 31, none⟩, []⟩,
  ⟨⟨.call (.const (.func 5 [] [])) [(.slot 31), (.const (.int .i64 (.ofNat 9)))], some 32, none⟩, []⟩,
  ⟨⟨.mv (.slot 32), some 30, none⟩, []⟩,
  ⟨⟨.extract (.slot 30) 0, some 33, none⟩, []⟩,
  ⟨⟨.extract (.slot 30) 1, some 34, none⟩, []⟩,
  ⟨⟨.mv (.slot 33), some 2, none⟩, []⟩,
  ⟨⟨.mv (.slot 34), some 3, none⟩, []⟩]
def r3_3 : List XLine := [⟨⟨.bslice 1 [(.int .i32 (.ofNat 0)), (.int .i32 (.ofNat 0))] [(0, 1, (.const (.int .i32 (.ofNat 1)))), (1, 1, (.const (.int .i32 (.ofNat 2))))] 2, some 35, none⟩, []⟩,
  ⟨⟨.bslice 1 [(.int .i32 (.ofNat 0)), (.int .i32 (.ofNat 0))] [(0, 1, (.const (.int .i32 (.negSucc 0)))), (1, 1, (.const (.int .i32 (.ofNat 3))))] 2, some 36, none⟩, []⟩,
  ⟨⟨.bslice 1 [(.int .i32 (.ofNat 0)), (.int .i32 (.ofNat 0)), (.int .i32 (.ofNat 0))] [(0, 1, (.const (.int .i32 (.negSucc 2)))), (1, 1, (.const (.int .i32 (.negSucc 1)))), (2, 1, (.const (.int .i32 (.ofNat 4))))] 3, some 37, none⟩, []⟩,
  ⟨⟨.bslice 1 [.nils, .nils, .nils] [(0, 1, (.slot 35)), (1, 1, (.slot 36)), (2, 1, (.slot 37))] 3, some 38, none⟩, []⟩,
  ⟨⟨.call (.const (.func 4 [] [])) [(.slot 38)], some 39, none⟩, []⟩,
  ⟨⟨.mv (.slot 39), some 4, none⟩, []⟩]
def r3_4 : List XLine := [⟨⟨.mv (.slot 4), some 41, none⟩, []⟩,
  ⟨⟨.call (.const (.func 5 [] [])) [(.slot 41), (.const (.int .i64 (.ofNat 1)))], some 42, none⟩, []⟩,
  ⟨⟨.mv (.slot 42), some 40, none⟩, []⟩,
  ⟨⟨.extract (.slot 40) 0, some 43, none⟩, []⟩,
  ⟨⟨.extract (.slot 40) 1, some 44, none⟩, []⟩,
  ⟨⟨.mv (.slot 43), some 5, none⟩, []⟩,
  ⟨⟨.mv (.slot 44), some 6, none⟩, []⟩]
def r3_5 : List XLine := [⟨⟨.mv (.slot 4), some 45, none⟩, []⟩,
  ⟨⟨.call (.const (.func 6 [] [])) [(.slot 45)], some 46, none⟩, []⟩,
  ⟨⟨.mv (.slot 46), some 7, none⟩, []⟩]
def r3_6 : List XLine := [⟨⟨.mv (.slot 2), some 47, none⟩, []⟩,
  ⟨⟨.bin .eql 3 .num (.slot 47) (.const (.int .i64 (.ofNat 0))), some 48, none⟩, []⟩,
  ⟨⟨.mv (.slot 48), some 49, none⟩, []⟩,
  ⟨⟨.mv (.slot 3), some 50, some (49, true)⟩, []⟩,
  ⟨⟨.bin .eql 27 .num (.slot 50) (.const (.int .i64 (.ofNat 0))), some 51, some (49, true)⟩, []⟩,
  ⟨⟨.pick (.slot 49) (.slot 51) (.const (.bool false)), some 52, none⟩, []⟩,
  ⟨⟨.mv (.slot 52), some 53, none⟩, []⟩,
  ⟨⟨.mv (.slot 5), some 54, some (53, true)⟩, []⟩,
  ⟨⟨.bin .eql 3 .num (.slot 54) (.const (.int .i64 (.ofNat 1))), some 55, some (53, true)⟩, []⟩,
  ⟨⟨.pick (.slot 53) (.slot 55) (.const (.bool false)), some 56, none⟩, []⟩,
  ⟨⟨.mv (.slot 56), some 57, none⟩, []⟩,
  ⟨⟨.mv (.slot 6), some 58, some (57, true)⟩, []⟩,
  ⟨⟨.bin .eql 27 .num (.slot 58) (.const (.int .i64 (.ofNat 0))), some 59, some (57, true)⟩, []⟩,
  ⟨⟨.pick (.slot 57) (.slot 59) (.const (.bool false)), some 60, none⟩, []⟩,
  ⟨⟨.mv (.slot 60), some 61, none⟩, []⟩,
  ⟨⟨.mv (.slot 7), some 62, some (61, true)⟩, []⟩,
  ⟨⟨.len .slice (.slot 62), some 63, some (61, true)⟩, []⟩,
  ⟨⟨.bin .eql 3 .num (.slot 63) (.const (.int .i64 (.ofNat 2))), some 64, some (61, true)⟩, []⟩,
  ⟨⟨.pick (.slot 61) (.slot 64) (.const (.bool false)), some 65, none⟩, []⟩,
  ⟨⟨.mv (.slot 65), some 66, none⟩, []⟩,
  ⟨⟨.mv (.slot 7), some 67, some (66, true)⟩, []⟩,
  ⟨⟨.iaddr 2 (.slot 67) (.const (.int .i64 (.ofNat 0))), some 68, some (66, true)⟩, []⟩,
  ⟨⟨.faddr 0 (.slot 68), some 69, some (66, true)⟩, []⟩,
  ⟨⟨.load false 1 (.slot 69), some 70, some (66, true)⟩, []⟩,
  ⟨⟨.bslice 1 [(.int .i32 (.ofNat 0))] [(0, 1, (.const (.int .i32 (.ofNat 1))))] 1, some 71, some (66, true)⟩, []⟩,
  ⟨⟨.call (.const (.func 7 [] [])) [(.slot 70), (.slot 71)], some 72, some (66, true)⟩, []⟩,
  ⟨⟨.pick (.slot 66) (.slot 72) (.const (.bool false)), some 73, none⟩, []⟩,
  ⟨⟨.mv (.slot 73), some 74, none⟩, []⟩,
  ⟨⟨.mv (.slot 7), some 75, some (74, true)⟩, []⟩,
  ⟨⟨.iaddr 2 (.slot 75) (.const (.int .i64 (.ofNat 1))), some 76, some (74, true)⟩, []⟩,
  ⟨⟨.faddr 0 (.slot 76), some 77, some (74, true)⟩, []⟩,
  ⟨⟨.load false 1 (.slot 77), some 78, some (74, true)⟩, []⟩,
  ⟨⟨.bslice 1 [(.int .i32 (.ofNat 0))] [(0, 1, (.const (.int .i32 (.ofNat 2))))] 1, some 79, some (74, true)⟩, []⟩,
  ⟨⟨.call (.const (.func 7 [] [])) [(.slot 78), (.slot 79)], some 80, some (74, true)⟩, []⟩,
  ⟨⟨.pick (.slot 74) (.slot 80) (.const (.bool false)), some 81, none⟩, []⟩,
  ⟨⟨.mv (.slot 81), some 82, none⟩, []⟩,
  ⟨⟨.mv (.slot 7), some 83, some (82, true)⟩, []⟩,
  ⟨⟨.iaddr 2 (.slot 83) (.const (.int .i64 (.ofNat 1))), some 84, some (82, true)⟩, []⟩,
  ⟨⟨.faddr 1 (.slot 84), some 85, some (82, true)⟩, []⟩,
  ⟨⟨.load false 1 (.slot 85), some 86, some (82, true)⟩, []⟩,
  ⟨⟨.bslice 1 [(.int .i32 (.ofNat 0)), (.int .i32 (.ofNat 0)), (.int .i32 (.ofNat 0))] [(0, 1, (.const (.int .i32 (.ofNat 1)))), (1, 1, (.const (.int .i32 (.ofNat 2)))), (2, 1, (.const (.int .i32 (.ofNat 3))))] 3, some 87, some (82, true)⟩, []⟩,
  ⟨⟨.call (.const (.func 7 [] [])) [(.slot 86), (.slot 87)], some 88, some (82, true)⟩, []⟩,
  ⟨⟨.pick (.slot 82) (.slot 88) (.const (.bool false)), some 89, none⟩, []⟩,
  ⟨⟨.mv (.slot 89), some 90, none⟩, []⟩,
  ⟨⟨.mv (.slot 4), some 91, some (90, true)⟩, []⟩,
  ⟨⟨.call (.const (.func 8 [] [])) [(.slot 91)], some 92, some (90, true)⟩, []⟩,
  ⟨⟨.len .slice (.slot 92), some 93, some (90, true)⟩, []⟩,
  ⟨⟨.bin .eql 3 .num (.slot 93) (.const (.int .i64 (.ofNat 2))), some 94, some (90, true)⟩, []⟩,
  ⟨⟨.pick (.slot 90) (.slot 94) (.const (.bool false)), some 95, none⟩, []⟩,
  ⟨⟨.mv (.slot 95), some 8, none⟩, []⟩]
def r3_7 : List XLine := [⟨⟨.bslice 1 [(.int .i32 (.ofNat 0)), (.int .i32 (.ofNat 0))] [(0, 1, (.const (.int .i32 (.ofNat 1)))), (1, 1, (.const (.int .i32 (.negSucc 0))))] 2, some 96, none⟩, []⟩,
  ⟨⟨.bslice 1 [(.int .i32 (.ofNat 0))] [(0, 1, (.const (.int .i32 (.ofNat 2))))] 1, some 97, none⟩, []⟩,
  ⟨⟨.bslice 1 [.nils, .nils] [(0, 1, (.slot 96)), (1, 1, (.slot 97))] 2, some 98, none⟩, []⟩,
  ⟨⟨.call (.const (.func 4 [] [])) [(.slot 98)], some 99, none⟩, []⟩,
  ⟨⟨.mv (.slot 99), some 9, none⟩, []⟩]
def r3_8 : List XLine := [⟨⟨.mv (.slot 9), some 101, none⟩, []⟩,
  ⟨⟨.bslice 1 [(.int .i32 (.ofNat 0)), (.int .i32 (.ofNat 0))] [(0, 1, (.const (.int .i32 (.ofNat 2)))), (1, 1, (.const (.int .i32 (.ofNat 3))))] 2, some 102, none⟩, []⟩,
  ⟨⟨.bslice 1 [(.int .i64 (.ofNat 0))] [(0, 1, (.const (.int .i64 (.ofNat 2))))] 1, some 103, none⟩, []⟩,
  ⟨⟨.call (.const (.func 9 [] [])) [(.slot 101), (.slot 102), (.slot 103), (.const (.bool true))], some 104, none⟩, []⟩,
  ⟨⟨.mv (.slot 104), some 100, none⟩, []⟩,
  ⟨⟨.extract (.slot 100) 0, some 105, none⟩, []⟩,
  ⟨⟨.extract (.slot 100) 1, some 106, none⟩, []⟩,
  ⟨⟨.mv (.slot 105), some 10, none⟩, []⟩,
  ⟨⟨.mv (.slot 106), some 11, none⟩, []⟩]
def r3_9 : List XLine := [⟨⟨.mv (.slot 9), some 108, none⟩, []⟩,
  ⟨⟨.call (.const (.func 5 [] [])) [(.slot 108), (.const (.int .i64 (.ofNat 9)))], some 109, none⟩, []⟩,
  ⟨⟨.mv (.slot 109), some 107, none⟩, []⟩,
  ⟨⟨.extract (.slot 107) 0, some 110, none⟩, []⟩,
  ⟨⟨.extract (.slot 107) 1, some 111, none⟩, []⟩,
  ⟨⟨.mv (.slot 110), some 12, none⟩, []⟩,
  ⟨⟨.mv (.slot 111), some 13, none⟩, []⟩]
def r3_10 : List XLine := [⟨⟨.mv (.slot 9), some 112, none⟩, []⟩,
  ⟨⟨.call (.const (.func 8 [] [])) [(.slot 112)], some 113, none⟩, []⟩,
  ⟨⟨.mv (.slot 113), some 14, none⟩, []⟩]
def r3_11 : List XLine := [⟨⟨.mv (.slot 11), some 114, none⟩, []⟩,
  ⟨⟨.bin .eql 27 .num (.slot 114) (.const (.int .i64 (.ofNat 0))), some 115, none⟩, []⟩,
  ⟨⟨.mv (.slot 115), some 116, none⟩, []⟩,
  ⟨⟨.mv (.slot 12), some 117, some (116, true)⟩, []⟩,
  ⟨⟨.bin .eql 3 .num (.slot 117) (.const (.int .i64 (.ofNat 1))), some 118, some (116, true)⟩, []⟩,
  ⟨⟨.pick (.slot 116) (.slot 118) (.const (.bool false)), some 119, none⟩, []⟩,
  ⟨⟨.mv (.slot 119), some 120, none⟩, []⟩,
  ⟨⟨.mv (.slot 13), some 121, some (120, true)⟩, []⟩,
  ⟨⟨.bin .eql 27 .num (.slot 121) (.const (.int .i64 (.ofNat 0))), some 122, some (120, true)⟩, []⟩,
  ⟨⟨.pick (.slot 120) (.slot 122) (.const (.bool false)), some 123, none⟩, []⟩,
  ⟨⟨.mv (.slot 123), some 124, none⟩, []⟩,
  ⟨⟨.mv (.slot 14), some 125, some (124, true)⟩, []⟩,
  ⟨⟨.len .slice (.slot 125), some 126, some (124, true)⟩, []⟩,
  ⟨⟨.bin .eql 3 .num (.slot 126) (.const (.int .i64 (.ofNat 2))), some 127, some (124, true)⟩, []⟩,
  ⟨⟨.pick (.slot 124) (.slot 127) (.const (.bool false)), some 128, none⟩, []⟩,
  ⟨⟨.mv (.slot 128), some 129, none⟩, []⟩,
  ⟨⟨.mv (.slot 14), some 130, some (129, true)⟩, []⟩,
  ⟨⟨.iaddr 3 (.slot 130) (.const (.int .i64 (.ofNat 0))), some 131, some (129, true)⟩, []⟩,
  ⟨⟨.faddr 0 (.slot 131), some 132, some (129, true)⟩, []⟩,
  ⟨⟨.load false 1 (.slot 132), some 133, some (129, true)⟩, []⟩,
  ⟨⟨.bin .eql 2 .num (.slot 133) (.const (.int .i64 (.ofNat 1))), some 134, some (129, true)⟩, []⟩,
  ⟨⟨.pick (.slot 129) (.slot 134) (.const (.bool false)), some 135, none⟩, []⟩,
  ⟨⟨.mv (.slot 135), some 136, none⟩, []⟩,
  ⟨⟨.mv (.slot 14), some 137, some (136, true)⟩, []⟩,
  ⟨⟨.iaddr 3 (.slot 137) (.const (.int .i64 (.ofNat 1))), some 138, some (136, true)⟩, []⟩,
  ⟨⟨.faddr 2 (.slot 138), some 139, some (136, true)⟩, []⟩,
  ⟨⟨.load false 1 (.slot 139), some 140, some (136, true)⟩, []⟩,
  ⟨⟨.pick (.slot 136) (.slot 140) (.const (.bool false)), some 141, none⟩, []⟩,
  ⟨⟨.mv (.slot 141), some 15, none⟩, []⟩]
def r3_12 : List XLine := [⟨⟨.call (.const (.func 5 [] [])) [(.const .nilp), (.const (.int .i64 (.ofNat 1)))], some 143, none⟩, []⟩,
  ⟨⟨.mv (.slot 143), some 142, none⟩, []⟩,
  ⟨⟨.extract (.slot 142) 0, some 144, none⟩, []⟩,
  ⟨⟨.extract (.slot 142) 1, some 145, none⟩, []⟩,
  ⟨⟨.mv (.slot 144), some 16, none⟩, []⟩,
  ⟨⟨.mv (.slot 145), some 17, none⟩, []⟩]
def r3_13 : List XLine := [⟨⟨.mv (.slot 1), some 147, none⟩, []⟩,
  ⟨⟨.call (.const (.func 5 [] [])) [(.slot 147), (.const (.int .i64 (.negSucc 0)))], some 148, none⟩, []⟩,
  ⟨⟨.mv (.slot 148), some 146, none⟩, []⟩,
  ⟨⟨.extract (.slot 146) 0, some 149, none⟩, []⟩,
  ⟨⟨.extract (.slot 146) 1, some 150, none⟩, []⟩,
  ⟨⟨.mv (.slot 149), some 18, none⟩, []⟩,
  ⟨⟨.mv (.slot 150), some 19, none⟩, []⟩]
def r3_14 : List XLine := [⟨⟨.bslice 1 [(.int .i32 (.ofNat 0)), (.int .i32 (.ofNat 0))] [(0, 1, (.const (.int .i32 (.ofNat 1)))), (1, 1, (.const (.int .i32 (.ofNat 2))))] 2, some 152, none⟩, []⟩,
  ⟨⟨.bslice 1 [.nils] [(0, 1, (.slot 152))] 1, some 153, none⟩, []⟩,
  ⟨⟨.call (.const (.func 4 [] [])) [(.slot 153)], some 154, none⟩, []⟩,
  ⟨⟨.call (.const (.func 5 [] [])) [(.slot 154), (.const (.int .i64 (.ofNat 0)))], some 155, none⟩, []⟩,
  ⟨⟨.mv (.slot 155), some 151, none⟩, []⟩,
  ⟨⟨.extract (.slot 151) 0, some 156, none⟩, []⟩,
  ⟨⟨.extract (.slot 151) 1, some 157, none⟩, []⟩,
  ⟨⟨.mv (.slot 156), some 20, none⟩, []⟩,
  ⟨⟨.mv (.slot 157), some 21, none⟩, []⟩]
def r3_15 : List XLine := [⟨⟨.bslice 1 [] [] 0, some 159, none⟩, []⟩,
  ⟨⟨.bslice 1 [.nils] [(0, 1, (.slot 159))] 1, some 160, none⟩, []⟩,
  ⟨⟨.call (.const (.func 4 [] [])) [(.slot 160)], some 161, none⟩, []⟩,
  ⟨⟨.call (.const (.func 5 [] [])) [(.slot 161), (.const (.int .i64 (.ofNat 9)))], some 162, none⟩, []⟩,
  ⟨⟨.mv (.slot 162), some 158, none⟩, []⟩,
  ⟨⟨.extract (.slot 158) 0, some 163, none⟩, []⟩,
  ⟨⟨.extract (.slot 158) 1, some 164, none⟩, []⟩,
  ⟨⟨.mv (.slot 163), some 22, none⟩, []⟩,
  ⟨⟨.mv (.slot 164), some 23, none⟩, []⟩]
def r3_16 : List XLine := [⟨⟨.mv (.slot 8), some 165, none⟩, []⟩,
  ⟨⟨.mv (.slot 165), some 166, none⟩, []⟩,
  ⟨⟨.mv (.slot 15), some 167, some (166, true)⟩, []⟩,
  ⟨⟨.pick (.slot 166) (.slot 167) (.const (.bool false)), some 168, none⟩, []⟩,
  ⟨⟨.mv (.slot 168), some 169, none⟩, []⟩,
  ⟨⟨.mv (.slot 17), some 170, some (169, true)⟩, []⟩,
  ⟨⟨.bin .eql 27 .num (.slot 170) (.const (.int .i64 (.ofNat 1))), some 171, some (169, true)⟩, []⟩,
  ⟨⟨.pick (.slot 169) (.slot 171) (.const (.bool false)), some 172, none⟩, []⟩,
  ⟨⟨.mv (.slot 172), some 173, none⟩, []⟩,
  ⟨⟨.mv (.slot 19), some 174, some (173, true)⟩, []⟩,
  ⟨⟨.bin .eql 27 .num (.slot 174) (.const (.int .i64 (.ofNat 2))), some 175, some (173, true)⟩, []⟩,
  ⟨⟨.pick (.slot 173) (.slot 175) (.const (.bool false)), some 176, none⟩, []⟩,
  ⟨⟨.mv (.slot 176), some 177, none⟩, []⟩,
  ⟨⟨.mv (.slot 20), some 178, some (177, true)⟩, []⟩,
  ⟨⟨.bin .eql 3 .num (.slot 178) (.const (.int .i64 (.ofNat 0))), some 179, some (177, true)⟩, []⟩,
  ⟨⟨.pick (.slot 177) (.slot 179) (.const (.bool false)), some 180, none⟩, []⟩,
  ⟨⟨.mv (.slot 180), some 181, none⟩, []⟩,
  ⟨⟨.mv (.slot 21), some 182, some (181, true)⟩, []⟩,
  ⟨⟨.bin .eql 27 .num (.slot 182) (.const (.int .i64 (.ofNat 0))), some 183, some (181, true)⟩, []⟩,
  ⟨⟨.pick (.slot 181) (.slot 183) (.const (.bool false)), some 184, none⟩, []⟩,
  ⟨⟨.mv (.slot 184), some 185, none⟩, []⟩,
  ⟨⟨.mv (.slot 22), some 186, some (185, true)⟩, []⟩,
  ⟨⟨.bin .eql 3 .num (.slot 186) (.const (.int .i64 (.ofNat 0))), some 187, some (185, true)⟩, []⟩,
  ⟨⟨.pick (.slot 185) (.slot 187) (.const (.bool false)), some 188, none⟩, []⟩,
  ⟨⟨.mv (.slot 188), some 189, none⟩, []⟩,
  ⟨⟨.mv (.slot 23), some 190, some (189, true)⟩, []⟩,
  ⟨⟨.bin .eql 27 .num (.slot 190) (.const (.int .i64 (.ofNat 0))), some 191, some (189, true)⟩, []⟩,
  ⟨⟨.pick (.slot 189) (.slot 191) (.const (.bool false)), some 192, none⟩, []⟩,
  ⟨⟨.mv (.slot 192), some 193, none⟩, []⟩,
  ⟨⟨.call (.const (.func 10 [] [])) [], some 194, some (193, true)⟩, []⟩,
  ⟨⟨.pick (.slot 193) (.slot 194) (.const (.bool false)), some 195, none⟩, []⟩,
  ⟨⟨.mv (.slot 195), some 0, none⟩, []⟩]
def xf3 : XFunc := ⟨(.seq (.region false r3_0)
  (.seq (.region false r3_1)
  (.seq (.region false r3_2)
  (.seq (.region false r3_3)
  (.seq (.region false r3_4)
  (.seq (.region false r3_5)
  (.seq (.region false r3_6)
  (.seq (.region false r3_7)
  (.seq (.region false r3_8)
  (.seq (.region false r3_9)
  (.seq (.region false r3_10)
  (.seq (.region false r3_11)
  (.seq (.region false r3_12)
  (.seq (.region false r3_13)
  (.seq (.region false r3_14)
  (.seq (.region false r3_15)
  (.seq (.region false r3_16)
  .ret))))))))))))))))),
  [.tmp 0]⟩
theorem xf3_ok : compFunc Try.prog Try.f3 = some xf3 := by kernel_rfl
/- threshing/threshinglaw28.began -/
def r4_0 : List XLine := [⟨⟨.mv (.const .nilp), some 2, none⟩, []⟩]
def r4_1 : List XLine := [⟨⟨.mv (.slot 0), some 6, none⟩, []⟩,
  ⟨⟨.build [(.int .i64 (.ofNat 0)), .nils] [(0, 1, (.const (.int .i64 (.ofNat 5)))), (1, 1, (.slot 6))], some 7, none⟩, []⟩,
  ⟨⟨.call (.const (.func 11 [] [])) [(.slot 7)], some 8, none⟩, []⟩,
  ⟨⟨.mv (.slot 8), some 5, none⟩, []⟩,
  ⟨⟨.extract (.slot 5) 0, some 9, none⟩, []⟩,
  ⟨⟨.extract (.slot 5) 1, some 10, none⟩, []⟩,
  ⟨⟨.mv (.slot 9), some 3, none⟩, []⟩,
  ⟨⟨.mv (.slot 10), some 4, none⟩, []⟩]
def r4_2 : List XLine := [⟨⟨.mv (.slot 3), some 11, none⟩, []⟩,
  ⟨⟨.mv (.slot 11), some 2, none⟩, []⟩]
def xf4 : XFunc := ⟨(.seq (.region false r4_0)
  (.seq (.region false r4_1)
  (.seq (.region false r4_2)
  .ret))),
  [.tmp 2]⟩
theorem xf4_ok : compFunc Try.prog Try.f4 = some xf4 := by kernel_rfl
/- threshing/blocked.Blocked -/
def r5_0 : List XLine := [⟨⟨.mv (.const (.int .i64 (.ofNat 0))), some 4, none⟩, []⟩,
  ⟨⟨.mv (.const (.int .i64 (.ofNat 0))), some 5, none⟩, []⟩]
def r5_1 : List XLine := [⟨⟨.mv (.slot 0), some 15, none⟩, []⟩,
  ⟨⟨.bin .eql 22 .ptr (.slot 15) (.const .nilp), some 16, none⟩, []⟩,
  ⟨⟨.mv (.slot 16), some 14, none⟩, []⟩]
def r5_2 : List XLine := [⟨⟨.mv (.const (.int .i64 (.ofNat 0))), some 4, none⟩, []⟩,
  ⟨⟨.mv (.const (.int .i64 (.ofNat 1))), some 5, none⟩, []⟩]
def r5_3 : List XLine := [⟨⟨.mv (.slot 1), some 18, none⟩, []⟩,
  ⟨⟨.bin .lss 3 .num (.slot 18) (.const (.int .i64 (.ofNat 0))), some 19, none⟩, []⟩,
  ⟨⟨.mv (.slot 19), some 17, none⟩, []⟩]
def r5_4 : List XLine := [⟨⟨.mv (.const (.int .i64 (.ofNat 0))), some 4, none⟩, []⟩,
  ⟨⟨.mv (.const (.int .i64 (.ofNat 2))), some 5, none⟩, []⟩]
def r5_5 : List XLine := [⟨⟨.mv (.const (.int .i64 (.ofNat 0))), some 6, none⟩, []⟩]
def r5_6 : List XLine := [⟨⟨.mv (.slot 0), some 20, none⟩, []⟩,
  ⟨⟨.call (.const (.func 8 [] [])) [(.slot 20)], some 21, none⟩, []⟩,
  ⟨⟨.len .slice (.slot 21), some 22, none⟩, []⟩,
  ⟨⟨.mv (.const (.int .i64 (.ofNat 0))), some 23, none⟩, []⟩]
def r5_7 : List XLine := [⟨⟨.bin .lss 3 .num (.slot 23) (.slot 22), some 24, none⟩, []⟩]
def r5_8 : List XLine := [⟨⟨.iaddr 3 (.slot 21) (.slot 23), some 25, none⟩, []⟩,
  ⟨⟨.load true 3 (.slot 25), some 26, none⟩, []⟩,
  ⟨⟨.alloc [(.int .i64 (.ofNat 0)), .nils, (.bool false)], some 8, none⟩, []⟩,
  ⟨⟨.store 3 (.slot 8) (.slot 26), none, none⟩, []⟩]
def r5_9 : List XLine := [⟨⟨.mv (.slot 6), some 27, none⟩, []⟩,
  ⟨⟨.mv (.slot 1), some 28, none⟩, []⟩,
  ⟨⟨.bin .eql 3 .num (.slot 27) (.slot 28), some 29, none⟩, []⟩]
def r5_10 : List XLine := [⟨⟨.faddr 1 (.slot 8), some 31, none⟩, []⟩,
  ⟨⟨.load false 1 (.slot 31), some 32, none⟩, []⟩,
  ⟨⟨.call (.const (.func 12 [] [])) [(.slot 32)], some 33, none⟩, []⟩,
  ⟨⟨.mv (.slot 33), some 30, none⟩, []⟩,
  ⟨⟨.extract (.slot 30) 0, some 34, none⟩, []⟩,
  ⟨⟨.extract (.slot 30) 1, some 35, none⟩, []⟩,
  ⟨⟨.mv (.slot 34), some 9, none⟩, []⟩,
  ⟨⟨.mv (.slot 35), some 10, none⟩, []⟩]
def r5_11 : List XLine := [⟨⟨.faddr 2 (.slot 8), some 36, none⟩, []⟩,
  ⟨⟨.load false 1 (.slot 36), some 37, none⟩, []⟩,
  ⟨⟨.mv (.slot 37), some 38, none⟩, []⟩,
  ⟨⟨.mv (.slot 10), some 39, some (38, false)⟩, []⟩,
  ⟨⟨.pick (.slot 38) (.const (.bool true)) (.slot 39), some 40, none⟩, []⟩]
def r5_12 : List XLine := [⟨⟨.mv (.slot 0), some 42, none⟩, []⟩,
  ⟨⟨.load true 3 (.slot 8), some 43, none⟩, []⟩,
  ⟨⟨.call (.const (.func 13 [] [])) [(.slot 42), (.slot 43)], some 44, none⟩, []⟩,
  ⟨⟨.mv (.slot 44), some 41, none⟩, []⟩,
  ⟨⟨.extract (.slot 41) 0, some 45, none⟩, []⟩,
  ⟨⟨.extract (.slot 41) 1, some 46, none⟩, []⟩,
  ⟨⟨.alloc [.nils, .nils, (.bool false)], some 11, none⟩, []⟩,
  ⟨⟨.store 3 (.slot 11) (.slot 45), none, none⟩, []⟩,
  ⟨⟨.mv (.slot 46), some 12, none⟩, []⟩]
def r5_13 : List XLine := [⟨⟨.mv (.slot 12), some 47, none⟩, []⟩,
  ⟨⟨.un .not (.slot 47), some 48, none⟩, []⟩]
def r5_14 : List XLine := [⟨⟨.mv (.slot 0), some 49, none⟩, []⟩,
  ⟨⟨.faddr 0 (.slot 8), some 50, none⟩, []⟩,
  ⟨⟨.load false 1 (.slot 50), some 51, none⟩, []⟩,
  ⟨⟨.load true 3 (.slot 11), some 52, none⟩, []⟩,
  ⟨⟨.call (.const (.func 14 [] [])) [(.slot 49), (.slot 51), (.slot 52)], some 53, none⟩, []⟩,
  ⟨⟨.mv (.slot 53), some 13, none⟩, []⟩]
def r5_15 : List XLine := [⟨⟨.mv (.slot 13), some 54, none⟩, []⟩,
  ⟨⟨.bin .neq 27 .num (.slot 54) (.const (.int .i64 (.ofNat 0))), some 55, none⟩, []⟩]
def r5_16 : List XLine := [⟨⟨.mv (.slot 6), some 56, none⟩, []⟩,
  ⟨⟨.mv (.slot 13), some 57, none⟩, []⟩,
  ⟨⟨.mv (.slot 56), some 4, none⟩, []⟩,
  ⟨⟨.mv (.slot 57), some 5, none⟩, []⟩]
def r5_17 : List XLine := [⟨⟨.mv (.slot 6), some 58, none⟩, []⟩,
  ⟨⟨.bin .add 3 .num (.slot 58) (.const (.int .i64 (.ofNat 1))), some 59, none⟩, []⟩,
  ⟨⟨.mv (.slot 59), some 6, none⟩, []⟩]
def r5_18 : List XLine := [⟨⟨.bin .add 3 .num (.slot 23) (.const (.int .i64 (.ofNat 1))), some 60, none⟩, []⟩,
  ⟨⟨.mv (.slot 60), some 23, none⟩, []⟩]
def r5_19 : List XLine := [⟨⟨.mv (.slot 6), some 61, none⟩, []⟩,
  ⟨⟨.mv (.slot 61), some 4, none⟩, []⟩,
  ⟨⟨.mv (.const (.int .i64 (.ofNat 0))), some 5, none⟩, []⟩]
def xf5 : XFunc := ⟨(.seq (.region false r5_0)
  (.seq (.block 0 (.seq (.region false r5_1)
  (.cond (.slot 14)
  (.seq (.region false r5_2)
  .ret)
  (.seq (.region false r5_3)
  (.cond (.slot 17)
  (.seq (.region false r5_4)
  .ret)
  .skip)))))
  (.seq (.region false r5_5)
  (.seq (.seq (.region false r5_6)
  (.block 1 (.loop (.seq (.region false r5_7)
  (.seq (.cond (.slot 24)
  .skip
  (.exit 1))
  (.seq (.block 2 (.seq (.region false r5_8)
  (.seq (.seq (.region false r5_9)
  (.cond (.slot 29)
  (.exit 1)
  .skip))
  (.seq (.seq (.region false r5_10)
  (.seq (.region false r5_11)
  (.cond (.slot 40)
  (.exit 2)
  .skip)))
  (.seq (.region false r5_12)
  (.seq (.seq (.region false r5_13)
  (.cond (.slot 48)
  (.exit 2)
  .skip))
  (.seq (.seq (.region false r5_14)
  (.seq (.region false r5_15)
  (.cond (.slot 55)
  (.seq (.region false r5_16)
  .ret)
  .skip)))
  (.region false r5_17))))))))
  (.region false r5_18)))))))
  (.seq (.region false r5_19)
  .ret))))),
  [.tmp 4, .tmp 5]⟩
theorem xf5_ok : compFunc Try.prog Try.f5 = some xf5 := by kernel_rfl
/- (*threshing/base.Base).Stack -/
def r6_0 : List XLine := [⟨⟨.mv (.const .nils), some 2, none⟩, []⟩]
def r6_1 : List XLine := [⟨⟨.mv (.slot 0), some 5, none⟩, []⟩,
  ⟨⟨.bin .eql 22 .ptr (.slot 5) (.const .nilp), some 6, none⟩, []⟩]
def r6_2 : List XLine := [⟨⟨.mv (.const .nils), some 2, none⟩, []⟩]
def r6_3 : List XLine := [⟨⟨.mv (.slot 0), some 7, none⟩, []⟩,
  ⟨⟨.nilCheck (.slot 7), some 8, none⟩, []⟩,
  ⟨⟨.faddr 6 (.slot 8), some 9, none⟩, []⟩,
  ⟨⟨.load false 1 (.slot 9), some 10, none⟩, []⟩,
  ⟨⟨.call (.const (.func 15 [] [])) [(.slot 10)], some 11, none⟩, []⟩,
  ⟨⟨.mv (.slot 11), some 3, none⟩, []⟩]
def r6_4 : List XLine := [⟨⟨.mv (.slot 3), some 12, none⟩, []⟩,
  ⟨⟨.len .slice (.slot 12), some 13, none⟩, []⟩,
  ⟨⟨.mv (.const (.int .i64 (.ofNat 0))), some 14, none⟩, []⟩]
def r6_5 : List XLine := [⟨⟨.bin .lss 3 .num (.slot 14) (.slot 13), some 15, none⟩, []⟩]
def r6_6 : List XLine := [⟨⟨.mv (.slot 14), some 16, none⟩, []⟩,
  ⟨⟨.mv (.slot 16), some 4, none⟩, []⟩]
def r6_7 : List XLine := [⟨⟨.mv (.slot 3), some 17, none⟩, []⟩,
  ⟨⟨.mv (.slot 4), some 18, none⟩, []⟩,
  ⟨⟨.mv (.slot 3), some 19, none⟩, []⟩,
  ⟨⟨.mv (.slot 4), some 20, none⟩, []⟩,
  ⟨⟨.mv (.slot 3), some 21, none⟩, []⟩,
  ⟨⟨.mv (.slot 4), some 22, none⟩, []⟩,
  ⟨⟨.iaddr 2 (.slot 21) (.slot 22), some 23, none⟩, []⟩,
  ⟨⟨.faddr 0 (.slot 23), some 24, none⟩, []⟩,
  ⟨⟨.load false 1 (.slot 24), some 25, none⟩, []⟩,
  ⟨⟨.mv (.slot 3), some 27, none⟩, []⟩,
  ⟨⟨.mv (.slot 4), some 28, none⟩, []⟩,
  ⟨⟨.iaddr 2 (.slot 27) (.slot 28), some 29, none⟩, []⟩,
  ⟨⟨.faddr 1 (.slot 29), some 30, none⟩, []⟩,
  ⟨⟨.load false 1 (.slot 30), some 31, none⟩, []⟩,
  ⟨⟨.call (.const (.func 16 [] [])) [(.slot 25)], some 26, none⟩, [⟨.load false 1 (.slot 30), some 31, none⟩]⟩,
  ⟨⟨.call (.const (.func 16 [] [])) [(.slot 31)], some 32, none⟩, []⟩,
  ⟨⟨.iaddr 2 (.slot 17) (.slot 18), some 33, none⟩, []⟩,
  ⟨⟨.faddr 0 (.slot 33), some 34, none⟩, []⟩,
  ⟨⟨.store 1 (.slot 34) (.slot 26), none, none⟩, []⟩,
  ⟨⟨.iaddr 2 (.slot 19) (.slot 20), some 35, none⟩, []⟩,
  ⟨⟨.faddr 1 (.slot 35), some 36, none⟩, []⟩,
  ⟨⟨.store 1 (.slot 36) (.slot 32), none, none⟩, []⟩]
def r6_8 : List XLine := [⟨⟨.bin .add 3 .num (.slot 14) (.const (.int .i64 (.ofNat 1))), some 37, none⟩, []⟩,
  ⟨⟨.mv (.slot 37), some 14, none⟩, []⟩]
def r6_9 : List XLine := [⟨⟨.mv (.slot 3), some 38, none⟩, []⟩,
  ⟨⟨.mv (.slot 38), some 2, none⟩, []⟩]
def xf6 : XFunc := ⟨(.seq (.region false r6_0)
  (.seq (.seq (.region false r6_1)
  (.cond (.slot 6)
  (.seq (.region false r6_2)
  .ret)
  .skip))
  (.seq (.region false r6_3)
  (.seq (.seq (.region false r6_4)
  (.block 0 (.loop (.seq (.region false r6_5)
  (.seq (.cond (.slot 15)
  .skip
  (.exit 0))
  (.seq (.block 1 (.seq (.region false r6_6)
  (.region true r6_7)))
  (.region false r6_8)))))))
  (.seq (.region false r6_9)
  .ret))))),
  [.tmp 2]⟩
theorem xf6_ok : compFunc Try.prog Try.f6 = some xf6 := by kernel_rfl
/- threshing/threshingkit.SameClause -/
def r7_0 : List XLine := [⟨⟨.mv (.const (.bool false)), some 4, none⟩, []⟩]
def r7_1 : List XLine := [⟨⟨.mv (.slot 0), some 6, none⟩, []⟩,
  ⟨⟨.len .slice (.slot 6), some 7, none⟩, []⟩,
  ⟨⟨.mv (.slot 1), some 8, none⟩, []⟩,
  ⟨⟨.len .slice (.slot 8), some 9, none⟩, []⟩,
  ⟨⟨.bin .neq 3 .num (.slot 7) (.slot 9), some 10, none⟩, []⟩]
def r7_2 : List XLine := [⟨⟨.mv (.const (.bool false)), some 4, none⟩, []⟩]
def r7_3 : List XLine := [⟨⟨.mv (.const (.int .i64 (.ofNat 0))), some 5, none⟩, []⟩]
def r7_4 : List XLine := [⟨⟨.mv (.slot 5), some 11, none⟩, []⟩,
  ⟨⟨.mv (.slot 0), some 12, none⟩, []⟩,
  ⟨⟨.len .slice (.slot 12), some 13, none⟩, []⟩,
  ⟨⟨.bin .lss 3 .num (.slot 11) (.slot 13), some 14, none⟩, []⟩]
def r7_5 : List XLine := [⟨⟨.mv (.slot 0), some 17, none⟩, []⟩,
  ⟨⟨.mv (.slot 5), some 18, none⟩, []⟩,
  ⟨⟨.iaddr 1 (.slot 17) (.slot 18), some 19, none⟩, []⟩,
  ⟨⟨.load false 1 (.slot 19), some 20, none⟩, []⟩,
  ⟨⟨.mv (.slot 1), some 21, none⟩, []⟩,
  ⟨⟨.mv (.slot 5), some 22, none⟩, []⟩,
  ⟨⟨.iaddr 1 (.slot 21) (.slot 22), some 23, none⟩, []⟩,
  ⟨⟨.load false 1 (.slot 23), some 24, none⟩, []⟩,
  ⟨⟨.bin .neq 24 .num (.slot 20) (.slot 24), some 25, none⟩, []⟩]
def r7_6 : List XLine := [⟨⟨.mv (.const (.bool false)), some 4, none⟩, []⟩]
def r7_7 : List XLine := [⟨⟨.mv (.slot 5), some 15, none⟩, []⟩,
  ⟨⟨.bin .add 3 .num (.slot 15) (.const (.int .i64 (.ofNat 1))), some 16, none⟩, []⟩,
  ⟨⟨.mv (.slot 16), some 5, none⟩, []⟩]
def r7_8 : List XLine := [⟨⟨.mv (.const (.bool true)), some 4, none⟩, []⟩]
def xf7 : XFunc := ⟨(.seq (.region false r7_0)
  (.seq (.seq (.region false r7_1)
  (.cond (.slot 10)
  (.seq (.region false r7_2)
  .ret)
  .skip))
  (.seq (.seq (.region false r7_3)
  (.block 0 (.loop (.seq (.seq (.region false r7_4)
  (.cond (.slot 14)
  .skip
  (.exit 0)))
  (.seq (.block 1 (.seq (.region true r7_5)
  (.cond (.slot 25)
  (.seq (.region false r7_6)
  .ret)
  .skip)))
  (.region false r7_7))))))
  (.seq (.region false r7_8)
  .ret)))),
  [.tmp 4]⟩
theorem xf7_ok : compFunc Try.prog Try.f7 = some xf7 := by kernel_rfl
/- (*threshing/base.Base).Entries -/
def r8_0 : List XLine := [⟨⟨.mv (.const .nils), some 2, none⟩, []⟩]
def r8_1 : List XLine := [⟨⟨.mv (.slot 0), some 6, none⟩, []⟩,
  ⟨⟨.bin .eql 22 .ptr (.slot 6) (.const .nilp), some 7, none⟩, []⟩]
def r8_2 : List XLine := [⟨⟨.mv (.const .nils), some 2, none⟩, []⟩]
def r8_3 : List XLine := [⟨⟨.mv (.const .nils), some 3, none⟩, []⟩]
def r8_4 : List XLine := [⟨⟨.mv (.slot 0), some 8, none⟩, []⟩,
  ⟨⟨.nilCheck (.slot 8), some 9, none⟩, []⟩,
  ⟨⟨.faddr 1 (.slot 9), some 10, none⟩, []⟩,
  ⟨⟨.load false 1 (.slot 10), some 11, none⟩, []⟩,
  ⟨⟨.call (.const (.func 18 [] [])) [(.slot 11)], some 12, none⟩, []⟩,
  ⟨⟨.call (.const (.func 17 [] [])) [(.slot 12)], some 13, none⟩, []⟩,
  ⟨⟨.len .slice (.slot 13), some 14, none⟩, []⟩,
  ⟨⟨.mv (.const (.int .i64 (.ofNat 0))), some 15, none⟩, []⟩]
def r8_5 : List XLine := [⟨⟨.bin .lss 3 .num (.slot 15) (.slot 14), some 16, none⟩, []⟩]
def r8_6 : List XLine := [⟨⟨.iaddr 1 (.slot 13) (.slot 15), some 17, none⟩, []⟩,
  ⟨⟨.load false 1 (.slot 17), some 18, none⟩, []⟩,
  ⟨⟨.mv (.slot 18), some 5, none⟩, []⟩]
def r8_7 : List XLine := [⟨⟨.mv (.slot 3), some 19, none⟩, []⟩,
  ⟨⟨.mv (.slot 0), some 20, none⟩, []⟩,
  ⟨⟨.nilCheck (.slot 20), some 21, none⟩, []⟩,
  ⟨⟨.faddr 1 (.slot 21), some 22, none⟩, []⟩,
  ⟨⟨.load false 1 (.slot 22), some 23, none⟩, []⟩,
  ⟨⟨.mv (.slot 5), some 24, none⟩, []⟩,
  ⟨⟨.lookup .i64 (.agg [(.int .i64 (.ofNat 0)), .nils, (.bool false)]) (.slot 23) (.slot 24) false, some 25, none⟩, []⟩,
  ⟨⟨.call (.const (.func 19 [] [])) [(.slot 25)], some 26, none⟩, []⟩,
  ⟨⟨.bslice 3 [(.int .i64 (.ofNat 0)), .nils, (.bool false)] [(0, 3, (.slot 26))] 1, some 27, none⟩, []⟩,
  ⟨⟨.append 3 40 (.slot 19) (.slot 27), some 28, none⟩, []⟩,
  ⟨⟨.mv (.slot 28), some 3, none⟩, []⟩]
def r8_8 : List XLine := [⟨⟨.bin .add 3 .num (.slot 15) (.const (.int .i64 (.ofNat 1))), some 29, none⟩, []⟩,
  ⟨⟨.mv (.slot 29), some 15, none⟩, []⟩]
def r8_9 : List XLine := [⟨⟨.mv (.slot 3), some 30, none⟩, []⟩,
  ⟨⟨.mv (.slot 30), some 2, none⟩, []⟩]
def xf8 : XFunc := ⟨(.seq (.region false r8_0)
  (.seq (.seq (.region false r8_1)
  (.cond (.slot 7)
  (.seq (.region false r8_2)
  .ret)
  .skip))
  (.seq (.region false r8_3)
  (.seq (.seq (.region false r8_4)
  (.block 0 (.loop (.seq (.region false r8_5)
  (.seq (.cond (.slot 16)
  .skip
  (.exit 0))
  (.seq (.block 1 (.seq (.region false r8_6)
  (.region false r8_7)))
  (.region false r8_8)))))))
  (.seq (.region false r8_9)
  .ret))))),
  [.tmp 2]⟩
theorem xf8_ok : compFunc Try.prog Try.f8 = some xf8 := by kernel_rfl
/- (*threshing/base.Base).Add -/
def r9_0 : List XLine := [⟨⟨.mv (.const (.int .i64 (.ofNat 0))), some 8, none⟩, []⟩,
  ⟨⟨.mv (.const (.int .i64 (.ofNat 0))), some 9, none⟩, []⟩]
def r9_1 : List XLine := [⟨⟨.mv (.slot 0), some 12, none⟩, []⟩,
  ⟨⟨.bin .eql 22 .ptr (.slot 12) (.const .nilp), some 13, none⟩, []⟩,
  ⟨⟨.mv (.slot 13), some 11, none⟩, []⟩]
def r9_2 : List XLine := [⟨⟨.mv (.const (.int .i64 (.ofNat 0))), some 8, none⟩, []⟩,
  ⟨⟨.mv (.const (.int .i64 (.ofNat 1))), some 9, none⟩, []⟩]
def r9_3 : List XLine := [⟨⟨.mv (.slot 0), some 15, none⟩, []⟩,
  ⟨⟨.call (.const (.func 20 [] [])) [(.slot 15)], some 16, none⟩, []⟩,
  ⟨⟨.mv (.slot 16), some 14, none⟩, []⟩]
def r9_4 : List XLine := [⟨⟨.mv (.const (.int .i64 (.ofNat 0))), some 8, none⟩, []⟩,
  ⟨⟨.mv (.const (.int .i64 (.ofNat 3))), some 9, none⟩, []⟩]
def r9_5 : List XLine := [⟨⟨.mv (.slot 0), some 18, none⟩, []⟩,
  ⟨⟨.mv (.slot 1), some 19, none⟩, []⟩,
  ⟨⟨.call (.const (.func 21 [] [])) [(.slot 18), (.slot 19)], some 20, none⟩, []⟩,
  ⟨⟨.un .not (.slot 20), some 21, none⟩, []⟩,
  ⟨⟨.mv (.slot 21), some 17, none⟩, []⟩]
def r9_6 : List XLine := [⟨⟨.mv (.const (.int .i64 (.ofNat 0))), some 8, none⟩, []⟩,
  ⟨⟨.mv (.const (.int .i64 (.ofNat 4))), some 9, none⟩, []⟩]
def r9_7 : List XLine := [⟨⟨.mv (.slot 0), some 22, none⟩, []⟩,
  ⟨⟨.mv (.slot 1), some 23, none⟩, []⟩,
  ⟨⟨.mv (.slot 2), some 24, none⟩, []⟩,
  ⟨⟨.call (.const (.func 22 [] [])) [(.slot 22), (.slot 23), (.slot 24)], some 25, none⟩, []⟩,
  ⟨⟨.mv (.slot 25), some 10, none⟩, []⟩]
def r9_8 : List XLine := [⟨⟨.mv (.slot 10), some 26, none⟩, []⟩,
  ⟨⟨.bin .neq 27 .num (.slot 26) (.const (.int .i64 (.ofNat 0))), some 27, none⟩, []⟩]
def r9_9 : List XLine := [⟨⟨.mv (.slot 10), some 28, none⟩, []⟩,
  ⟨⟨.mv (.const (.int .i64 (.ofNat 0))), some 8, none⟩, []⟩,
  ⟨⟨.mv (.slot 28), some 9, none⟩, []⟩]
def r9_10 : List XLine := [⟨⟨.mv (.slot 0), some 29, none⟩, []⟩,
  ⟨⟨.mv (.slot 1), some 30, none⟩, []⟩,
  ⟨⟨.mv (.slot 3), some 31, none⟩, []⟩,
  ⟨⟨.call (.const (.func 23 [] [])) [(.slot 29), (.slot 30), (.slot 31)], some 32, none⟩, []⟩]
def r9_11 : List XLine := [⟨⟨.mv (.slot 0), some 33, none⟩, []⟩,
  ⟨⟨.mv (.slot 0), some 34, none⟩, []⟩,
  ⟨⟨.nilCheck (.slot 34), some 35, none⟩, []⟩,
  ⟨⟨.faddr 5 (.slot 35), some 36, none⟩, []⟩,
  ⟨⟨.load false 1 (.slot 36), some 37, none⟩, []⟩,
  ⟨⟨.mv (.slot 0), some 38, none⟩, []⟩,
  ⟨⟨.nilCheck (.slot 38), some 39, none⟩, []⟩,
  ⟨⟨.faddr 4 (.slot 39), some 40, none⟩, []⟩,
  ⟨⟨.load false 1 (.slot 40), some 41, none⟩, []⟩,
  ⟨⟨.mv (.slot 1), some 42, none⟩, []⟩,
  ⟨⟨.mv (.slot 2), some 44, none⟩, []⟩,
  ⟨⟨.call (.const (.func 16 [] [])) [(.slot 42)], some 43, none⟩, [⟨.load false 1 (.slot 36), some 37, none⟩, ⟨.load false 1 (.slot 40), some 41, none⟩]⟩,
  ⟨⟨.call (.const (.func 24 [] [])) [(.slot 44)], some 45, none⟩, [⟨.load false 1 (.slot 36), some 37, none⟩, ⟨.load false 1 (.slot 40), some 41, none⟩]⟩,
  ⟨⟨.build [(.int .u8 (.ofNat 0)), (.int .i64 (.ofNat 0)), .nils, .nils] [(0, 1, (.const (.int .u8 (.ofNat 1)))), (1, 1, (.slot 41)), (2, 1, (.slot 43)), (3, 1, (.slot 45))], some 46, none⟩, []⟩,
  ⟨⟨.bslice 4 [(.int .u8 (.ofNat 0)), (.int .i64 (.ofNat 0)), .nils, .nils] [(0, 4, (.slot 46))] 1, some 47, none⟩, [⟨.load false 1 (.slot 36), some 37, none⟩]⟩,
  ⟨⟨.append 4 64 (.slot 37) (.slot 47), some 48, none⟩, []⟩,
  ⟨⟨.nilCheck (.slot 33), some 49, none⟩, []⟩,
  ⟨⟨.faddr 5 (.slot 49), some 50, none⟩, []⟩,
  ⟨⟨.store 1 (.slot 50) (.slot 48), none, none⟩, []⟩]
def r9_12 : List XLine := [⟨⟨.mv (.slot 0), some 51, none⟩, []⟩,
  ⟨⟨.mv (.slot 0), some 52, none⟩, []⟩,
  ⟨⟨.nilCheck (.slot 52), some 53, none⟩, []⟩,
  ⟨⟨.faddr 4 (.slot 53), some 54, none⟩, []⟩,
  ⟨⟨.load false 1 (.slot 54), some 55, none⟩, []⟩,
  ⟨⟨.mv (.slot 3), some 56, none⟩, []⟩,
  ⟨⟨.mv (.slot 1), some 57, none⟩, []⟩,
  ⟨⟨.mv (.slot 2), some 59, none⟩, []⟩,
  ⟨⟨.call (.const (.func 16 [] [])) [(.slot 57)], some 58, none⟩, [⟨.load false 1 (.slot 54), some 55, none⟩]⟩,
  ⟨⟨.call (.const (.func 24 [] [])) [(.slot 59)], some 60, none⟩, [⟨.load false 1 (.slot 54), some 55, none⟩]⟩,
  ⟨⟨.build [(.int .u8 (.ofNat 0)), (.int .i64 (.ofNat 0)), (.int .i64 (.ofNat 0)), (.bool false), .nils, .nils] [(0, 1, (.const (.int .u8 (.ofNat 1)))), (1, 1, (.slot 55)), (3, 1, (.slot 56)), (4, 1, (.slot 58)), (5, 1, (.slot 60))], some 61, none⟩, []⟩,
  ⟨⟨.call (.const (.func 25 [] [])) [(.slot 51), (.slot 61)], some 62, none⟩, []⟩]
def r9_13 : List XLine := [⟨⟨.mv (.slot 0), some 63, none⟩, []⟩,
  ⟨⟨.nilCheck (.slot 63), some 64, none⟩, []⟩,
  ⟨⟨.faddr 4 (.slot 64), some 65, none⟩, []⟩,
  ⟨⟨.load false 1 (.slot 65), some 66, none⟩, []⟩,
  ⟨⟨.mv (.slot 66), some 8, none⟩, []⟩,
  ⟨⟨.mv (.const (.int .i64 (.ofNat 0))), some 9, none⟩, []⟩]
def xf9 : XFunc := ⟨(.seq (.region false r9_0)
  (.seq (.block 0 (.seq (.region false r9_1)
  (.cond (.slot 11)
  (.seq (.region false r9_2)
  .ret)
  (.seq (.region false r9_3)
  (.cond (.slot 14)
  (.seq (.region false r9_4)
  .ret)
  (.seq (.region false r9_5)
  (.cond (.slot 17)
  (.seq (.region false r9_6)
  .ret)
  .skip)))))))
  (.seq (.seq (.region false r9_7)
  (.seq (.region false r9_8)
  (.cond (.slot 27)
  (.seq (.region false r9_9)
  .ret)
  .skip)))
  (.seq (.region false r9_10)
  (.seq (.region true r9_11)
  (.seq (.region true r9_12)
  (.seq (.region false r9_13)
  .ret))))))),
  [.tmp 8, .tmp 9]⟩
theorem xf9_ok : compFunc Try.prog Try.f9 = some xf9 := by kernel_rfl
/- threshing/threshinglaw28.works -/
def r10_0 : List XLine := [⟨⟨.mv (.const (.bool false)), some 0, none⟩, []⟩]
def r10_1 : List XLine := [⟨⟨.bslice 1 [(.int .i32 (.ofNat 0)), (.int .i32 (.ofNat 0))] [(0, 1, (.const (.int .i32 (.ofNat 1)))), (1, 1, (.const (.int .i32 (.ofNat 2))))] 2, some 5, none⟩, []⟩,
  ⟨⟨.bslice 1 [(.int .i32 (.ofNat 0)), (.int .i32 (.ofNat 0))] [(0, 1, (.const (.int .i32 (.negSucc 0)))), (1, 1, (.const (.int .i32 (.negSucc 1))))] 2, some 6, none⟩, []⟩,
  ⟨⟨.bslice 1 [.nils, .nils] [(0, 1, (.slot 5)), (1, 1, (.slot 6))] 2, some 7, none⟩, []⟩,
  ⟨⟨.call (.const (.func 4 [] [])) [(.slot 7)], some 8, none⟩, []⟩,
  ⟨⟨.mv (.slot 8), some 1, none⟩, []⟩]
def r10_2 : List XLine := [⟨⟨.mv (.slot 1), some 10, none⟩, []⟩,
  ⟨⟨.call (.const (.func 5 [] [])) [(.slot 10), (.const (.int .i64 (.ofNat 9)))], some 11, none⟩, []⟩,
  ⟨⟨.mv (.slot 11), some 9, none⟩, []⟩,
  ⟨⟨.extract (.slot 9) 0, some 12, none⟩, []⟩,
  ⟨⟨.extract (.slot 9) 1, some 13, none⟩, []⟩,
  ⟨⟨.mv (.slot 12), some 2, none⟩, []⟩,
  ⟨⟨.mv (.slot 13), some 3, none⟩, []⟩]
def r10_3 : List XLine := [⟨⟨.mv (.slot 1), some 14, none⟩, []⟩,
  ⟨⟨.call (.const (.func 6 [] [])) [(.slot 14)], some 15, none⟩, []⟩,
  ⟨⟨.mv (.slot 15), some 4, none⟩, []⟩]
def r10_4 : List XLine := [⟨⟨.mv (.slot 2), some 16, none⟩, []⟩,
  ⟨⟨.bin .eql 3 .num (.slot 16) (.const (.int .i64 (.ofNat 2))), some 17, none⟩, []⟩,
  ⟨⟨.mv (.slot 17), some 18, none⟩, []⟩,
  ⟨⟨.mv (.slot 3), some 19, some (18, true)⟩, []⟩,
  ⟨⟨.bin .eql 27 .num (.slot 19) (.const (.int .i64 (.ofNat 0))), some 20, some (18, true)⟩, []⟩,
  ⟨⟨.pick (.slot 18) (.slot 20) (.const (.bool false)), some 21, none⟩, []⟩,
  ⟨⟨.mv (.slot 21), some 22, none⟩, []⟩,
  ⟨⟨.mv (.slot 1), some 23, some (22, true)⟩, []⟩,
  ⟨⟨.call (.const (.func 8 [] [])) [(.slot 23)], some 24, some (22, true)⟩, []⟩,
  ⟨⟨.len .slice (.slot 24), some 25, some (22, true)⟩, []⟩,
  ⟨⟨.bin .eql 3 .num (.slot 25) (.const (.int .i64 (.ofNat 0))), some 26, some (22, true)⟩, []⟩,
  ⟨⟨.pick (.slot 22) (.slot 26) (.const (.bool false)), some 27, none⟩, []⟩,
  ⟨⟨.mv (.slot 27), some 28, none⟩, []⟩,
  ⟨⟨.mv (.slot 4), some 29, some (28, true)⟩, []⟩,
  ⟨⟨.len .slice (.slot 29), some 30, some (28, true)⟩, []⟩,
  ⟨⟨.bin .eql 3 .num (.slot 30) (.const (.int .i64 (.ofNat 2))), some 31, some (28, true)⟩, []⟩,
  ⟨⟨.pick (.slot 28) (.slot 31) (.const (.bool false)), some 32, none⟩, []⟩,
  ⟨⟨.mv (.slot 32), some 33, none⟩, []⟩,
  ⟨⟨.mv (.slot 4), some 34, some (33, true)⟩, []⟩,
  ⟨⟨.iaddr 2 (.slot 34) (.const (.int .i64 (.ofNat 0))), some 35, some (33, true)⟩, []⟩,
  ⟨⟨.faddr 0 (.slot 35), some 36, some (33, true)⟩, []⟩,
  ⟨⟨.load false 1 (.slot 36), some 37, some (33, true)⟩, []⟩,
  ⟨⟨.bslice 1 [(.int .i32 (.ofNat 0))] [(0, 1, (.const (.int .i32 (.ofNat 1))))] 1, some 38, some (33, true)⟩, []⟩,
  ⟨⟨.call (.const (.func 7 [] [])) [(.slot 37), (.slot 38)], some 39, some (33, true)⟩, []⟩,
  ⟨⟨.pick (.slot 33) (.slot 39) (.const (.bool false)), some 40, none⟩, []⟩,
  ⟨⟨.mv (.slot 40), some 41, none⟩, []⟩,
  ⟨⟨.mv (.slot 4), some 42, some (41, true)⟩, []⟩,
  ⟨⟨.iaddr 2 (.slot 42) (.const (.int .i64 (.ofNat 1))), some 43, some (41, true)⟩, []⟩,
  ⟨⟨.faddr 0 (.slot 43), some 44, some (41, true)⟩, []⟩,
  ⟨⟨.load false 1 (.slot 44), some 45, some (41, true)⟩, []⟩,
  ⟨⟨.bslice 1 [(.int .i32 (.ofNat 0))] [(0, 1, (.const (.int .i32 (.negSucc 0))))] 1, some 46, some (41, true)⟩, []⟩,
  ⟨⟨.call (.const (.func 7 [] [])) [(.slot 45), (.slot 46)], some 47, some (41, true)⟩, []⟩,
  ⟨⟨.pick (.slot 41) (.slot 47) (.const (.bool false)), some 48, none⟩, []⟩,
  ⟨⟨.mv (.slot 48), some 0, none⟩, []⟩]
def xf10 : XFunc := ⟨(.seq (.region false r10_0)
  (.seq (.region false r10_1)
  (.seq (.region false r10_2)
  (.seq (.region false r10_3)
  (.seq (.region false r10_4)
  .ret))))),
  [.tmp 0]⟩
theorem xf10_ok : compFunc Try.prog Try.f10 = some xf10 := by kernel_rfl
/- threshing/base.New -/
def r11_0 : List XLine := [⟨⟨.box (.slot 0), some 1, none⟩, []⟩,
  ⟨⟨.mv (.const .nilp), some 2, none⟩, []⟩,
  ⟨⟨.mv (.const (.int .i64 (.ofNat 0))), some 3, none⟩, []⟩]
def r11_1 : List XLine := [⟨⟨.load true 2 (.slot 1), some 8, none⟩, []⟩,
  ⟨⟨.call (.const (.func 26 [] [])) [(.slot 8)], some 9, none⟩, []⟩,
  ⟨⟨.mv (.slot 9), some 4, none⟩, []⟩]
def r11_2 : List XLine := [⟨⟨.mv (.slot 4), some 10, none⟩, []⟩,
  ⟨⟨.bin .neq 27 .num (.slot 10) (.const (.int .i64 (.ofNat 0))), some 11, none⟩, []⟩]
def r11_3 : List XLine := [⟨⟨.mv (.slot 4), some 12, none⟩, []⟩,
  ⟨⟨.mv (.const .nilp), some 2, none⟩, []⟩,
  ⟨⟨.mv (.slot 12), some 3, none⟩, []⟩]
def r11_4 : List XLine := [⟨⟨.faddr 0 (.slot 1), some 13, none⟩, []⟩,
  ⟨⟨.load false 1 (.slot 13), some 14, none⟩, []⟩,
  ⟨⟨.mkmap .i64, some 15, none⟩, []⟩,
  ⟨⟨.mkmap .i32, some 16, none⟩, []⟩,
  ⟨⟨.mkmap .i64, some 17, none⟩, []⟩,
  ⟨⟨.build [(.int .i64 (.ofNat 0)), .nilm, .nilm, .nilm, (.int .i64 (.ofNat 0)), .nils, .nils, .nils] [(0, 1, (.slot 14)), (1, 1, (.slot 15)), (2, 1, (.slot 16)), (3, 1, (.slot 17))], some 18, none⟩, []⟩,
  ⟨⟨.box (.slot 18), some 19, none⟩, []⟩,
  ⟨⟨.mv (.slot 19), some 5, none⟩, []⟩]
def r11_5 : List XLine := [⟨⟨.faddr 1 (.slot 1), some 20, none⟩, []⟩,
  ⟨⟨.load false 1 (.slot 20), some 21, none⟩, []⟩,
  ⟨⟨.len .slice (.slot 21), some 22, none⟩, []⟩,
  ⟨⟨.mv (.const (.int .i64 (.ofNat 0))), some 23, none⟩, []⟩]
def r11_6 : List XLine := [⟨⟨.bin .lss 3 .num (.slot 23) (.slot 22), some 24, none⟩, []⟩]
def r11_7 : List XLine := [⟨⟨.iaddr 1 (.slot 21) (.slot 23), some 25, none⟩, []⟩,
  ⟨⟨.load false 1 (.slot 25), some 26, none⟩, []⟩,
  ⟨⟨.mv (.slot 26), some 7, none⟩, []⟩]
def r11_8 : List XLine := [⟨⟨.mv (.slot 5), some 27, none⟩, []⟩,
  ⟨⟨.mv (.slot 7), some 28, none⟩, []⟩,
  ⟨⟨.call (.const (.func 23 [] [])) [(.slot 27), (.slot 28), (.const (.bool false))], some 29, none⟩, []⟩]
def r11_9 : List XLine := [⟨⟨.bin .add 3 .num (.slot 23) (.const (.int .i64 (.ofNat 1))), some 30, none⟩, []⟩,
  ⟨⟨.mv (.slot 30), some 23, none⟩, []⟩]
def r11_10 : List XLine := [⟨⟨.mv (.slot 5), some 31, none⟩, []⟩,
  ⟨⟨.mv (.slot 31), some 2, none⟩, []⟩,
  ⟨⟨.mv (.const (.int .i64 (.ofNat 0))), some 3, none⟩, []⟩]
def xf11 : XFunc := ⟨(.seq (.region false r11_0)
  (.seq (.seq (.region false r11_1)
  (.seq (.region false r11_2)
  (.cond (.slot 11)
  (.seq (.region false r11_3)
  .ret)
  .skip)))
  (.seq (.region false r11_4)
  (.seq (.seq (.region false r11_5)
  (.block 0 (.loop (.seq (.region false r11_6)
  (.seq (.cond (.slot 24)
  .skip
  (.exit 0))
  (.seq (.block 1 (.seq (.region false r11_7)
  (.region false r11_8)))
  (.region false r11_9)))))))
  (.seq (.region false r11_10)
  .ret))))),
  [.tmp 2, .tmp 3]⟩
theorem xf11_ok : compFunc Try.prog Try.f11 = some xf11 := by kernel_rfl
/- threshing/cnf.Normal -/
def r12_0 : List XLine := [⟨⟨.mv (.const .nils), some 2, none⟩, []⟩,
  ⟨⟨.mv (.const (.bool false)), some 3, none⟩, []⟩]
def r12_1 : List XLine := [⟨⟨.mv (.slot 0), some 7, none⟩, []⟩,
  ⟨⟨.call (.const (.func 16 [] [])) [(.slot 7)], some 8, none⟩, []⟩,
  ⟨⟨.mv (.slot 8), some 4, none⟩, []⟩]
def r12_2 : List XLine := [⟨⟨.mv (.slot 4), some 9, none⟩, []⟩,
  ⟨⟨.call (.const (.func 27 [] [])) [(.slot 9), (.const (.func 28 [] []))], some 10, none⟩, []⟩]
def r12_3 : List XLine := [⟨⟨.mv (.slot 4), some 11, none⟩, []⟩,
  ⟨⟨.call (.const (.func 29 [] [])) [(.slot 11)], some 12, none⟩, []⟩,
  ⟨⟨.mv (.slot 12), some 4, none⟩, []⟩]
def r12_4 : List XLine := [⟨⟨.mv (.const (.bool false)), some 5, none⟩, []⟩]
def r12_5 : List XLine := [⟨⟨.mv (.slot 4), some 13, none⟩, []⟩,
  ⟨⟨.len .slice (.slot 13), some 14, none⟩, []⟩,
  ⟨⟨.mv (.const (.int .i64 (.ofNat 0))), some 15, none⟩, []⟩]
def r12_6 : List XLine := [⟨⟨.bin .lss 3 .num (.slot 15) (.slot 14), some 16, none⟩, []⟩]
def r12_7 : List XLine := [⟨⟨.mv (.slot 15), some 17, none⟩, []⟩,
  ⟨⟨.mv (.slot 17), some 6, none⟩, []⟩]
def r12_8 : List XLine := [⟨⟨.mv (.slot 5), some 18, none⟩, []⟩,
  ⟨⟨.mv (.slot 18), some 19, none⟩, []⟩,
  ⟨⟨.mv (.slot 6), some 20, some (19, false)⟩, []⟩,
  ⟨⟨.bin .gtr 3 .num (.slot 20) (.const (.int .i64 (.ofNat 0))), some 21, some (19, false)⟩, []⟩,
  ⟨⟨.mv (.slot 21), some 22, some (19, false)⟩, []⟩,
  ⟨⟨.mv (.slot 4), some 23, some (22, true)⟩, []⟩,
  ⟨⟨.mv (.slot 6), some 24, some (22, true)⟩, []⟩,
  ⟨⟨.iaddr 1 (.slot 23) (.slot 24), some 25, some (22, true)⟩, []⟩,
  ⟨⟨.load false 1 (.slot 25), some 26, some (22, true)⟩, []⟩,
  ⟨⟨.bin .gtr 24 .num (.slot 26) (.const (.int .i32 (.ofNat 0))), some 27, some (22, true)⟩, []⟩,
  ⟨⟨.pick (.slot 22) (.slot 27) (.const (.bool false)), some 28, some (19, false)⟩, []⟩,
  ⟨⟨.mv (.slot 28), some 29, some (19, false)⟩, []⟩,
  ⟨⟨.mv (.slot 4), some 30, some (29, true)⟩, []⟩,
  ⟨⟨.mv (.slot 6), some 31, some (29, true)⟩, []⟩,
  ⟨⟨.iaddr 1 (.slot 30) (.slot 31), some 32, some (29, true)⟩, []⟩,
  ⟨⟨.load false 1 (.slot 32), some 33, some (29, true)⟩, []⟩,
  ⟨⟨.mv (.slot 4), some 34, some (29, true)⟩, []⟩,
  ⟨⟨.mv (.slot 6), some 35, some (29, true)⟩, []⟩,
  ⟨⟨.bin .sub 3 .num (.slot 35) (.const (.int .i64 (.ofNat 1))), some 36, some (29, true)⟩, []⟩,
  ⟨⟨.iaddr 1 (.slot 34) (.slot 36), some 37, some (29, true)⟩, []⟩,
  ⟨⟨.load false 1 (.slot 37), some 38, some (29, true)⟩, []⟩,
  ⟨⟨.un .neg (.slot 38), some 39, some (29, true)⟩, []⟩,
  ⟨⟨.bin .eql 24 .num (.slot 33) (.slot 39), some 40, some (29, true)⟩, []⟩,
  ⟨⟨.pick (.slot 29) (.slot 40) (.const (.bool false)), some 41, some (19, false)⟩, []⟩,
  ⟨⟨.pick (.slot 19) (.const (.bool true)) (.slot 41), some 42, none⟩, []⟩,
  ⟨⟨.mv (.slot 42), some 5, none⟩, []⟩]
def r12_9 : List XLine := [⟨⟨.bin .add 3 .num (.slot 15) (.const (.int .i64 (.ofNat 1))), some 43, none⟩, []⟩,
  ⟨⟨.mv (.slot 43), some 15, none⟩, []⟩]
def r12_10 : List XLine := [⟨⟨.mv (.slot 4), some 44, none⟩, []⟩,
  ⟨⟨.call (.const (.func 30 [] [])) [(.slot 44)], some 45, none⟩, []⟩,
  ⟨⟨.mv (.slot 5), some 46, none⟩, []⟩,
  ⟨⟨.mv (.slot 45), some 2, none⟩, []⟩,
  ⟨⟨.mv (.slot 46), some 3, none⟩, []⟩]
def xf12 : XFunc := ⟨(.seq (.region false r12_0)
  (.seq (.region false r12_1)
  (.seq (.region false r12_2)
  (.seq (.region false r12_3)
  (.seq (.region false r12_4)
  (.seq (.seq (.region false r12_5)
  (.block 0 (.loop (.seq (.region false r12_6)
  (.seq (.cond (.slot 16)
  .skip
  (.exit 0))
  (.seq (.block 1 (.seq (.region false r12_7)
  (.region true r12_8)))
  (.region false r12_9)))))))
  (.seq (.region false r12_10)
  .ret))))))),
  [.tmp 2, .tmp 3]⟩
theorem xf12_ok : compFunc Try.prog Try.f12 = some xf12 := by kernel_rfl
/- threshing/blocked.find -/
def r13_0 : List XLine := [⟨⟨.box (.slot 0), some 2, none⟩, []⟩,
  ⟨⟨.box (.slot 1), some 3, none⟩, []⟩,
  ⟨⟨.alloc [.nils, .nils, (.bool false)], some 4, none⟩, []⟩,
  ⟨⟨.mv (.const (.bool false)), some 5, none⟩, []⟩]
def r13_1 : List XLine := [⟨⟨.alloc [.nils, .nils, (.bool false)], some 6, none⟩, []⟩]
def r13_2 : List XLine := [⟨⟨.faddr 1 (.slot 3), some 13, none⟩, []⟩,
  ⟨⟨.load false 1 (.slot 13), some 14, none⟩, []⟩,
  ⟨⟨.call (.const (.func 12 [] [])) [(.slot 14)], some 15, none⟩, []⟩,
  ⟨⟨.mv (.slot 15), some 12, none⟩, []⟩,
  ⟨⟨.extract (.slot 12) 0, some 16, none⟩, []⟩,
  ⟨⟨.extract (.slot 12) 1, some 17, none⟩, []⟩,
  ⟨⟨.alloc [.nils], some 7, none⟩, []⟩,
  ⟨⟨.alloc [(.bool false)], some 8, none⟩, []⟩,
  ⟨⟨.store 1 (.slot 7) (.slot 16), none, none⟩, []⟩,
  ⟨⟨.store 1 (.slot 8) (.slot 17), none, none⟩, []⟩]
def r13_3 : List XLine := [⟨⟨.mkfunc 31 [] [(.slot 2), (.slot 3), (.slot 7), (.slot 6), (.slot 8)], some 18, none⟩, []⟩,
  ⟨⟨.mv (.slot 18), some 9, none⟩, []⟩]
def r13_4 : List XLine := [⟨⟨.mv (.slot 9), some 20, none⟩, []⟩,
  ⟨⟨.call (.slot 20) [], some 21, none⟩, []⟩,
  ⟨⟨.mv (.slot 21), some 19, none⟩, []⟩,
  ⟨⟨.extract (.slot 19) 0, some 22, none⟩, []⟩,
  ⟨⟨.extract (.slot 19) 1, some 23, none⟩, []⟩,
  ⟨⟨.mv (.slot 22), some 10, none⟩, []⟩,
  ⟨⟨.mv (.slot 23), some 11, none⟩, []⟩]
def r13_5 : List XLine := [⟨⟨.mv (.slot 10), some 24, none⟩, []⟩]
def r13_6 : List XLine := [⟨⟨.load true 3 (.slot 6), some 25, none⟩, []⟩,
  ⟨⟨.mv (.slot 11), some 26, none⟩, []⟩,
  ⟨⟨.store 3 (.slot 4) (.slot 25), none, none⟩, []⟩,
  ⟨⟨.mv (.slot 26), some 5, none⟩, []⟩]
def xf13 : XFunc := ⟨(.seq (.region false r13_0)
  (.seq (.region false r13_1)
  (.seq (.region false r13_2)
  (.seq (.region false r13_3)
  (.block 0 (.loop (.block 1 (.seq (.region false r13_4)
  (.seq (.region false r13_5)
  (.cond (.slot 24)
  (.seq (.region false r13_6)
  .ret)
  .skip)))))))))),
  [.cell 4 true 3, .tmp 5]⟩
theorem xf13_ok : compFunc Try.prog Try.f13 = some xf13 := by kernel_rfl
/- threshing/blocked.goes -/
def r14_0 : List XLine := [⟨⟨.box (.slot 2), some 5, none⟩, []⟩,
  ⟨⟨.mv (.const (.int .i64 (.ofNat 0))), some 6, none⟩, []⟩]
def r14_1 : List XLine := [⟨⟨.faddr 1 (.slot 5), some 12, none⟩, []⟩,
  ⟨⟨.load false 1 (.slot 12), some 13, none⟩, []⟩,
  ⟨⟨.len .slice (.slot 13), some 14, none⟩, []⟩,
  ⟨⟨.mv (.const (.int .i64 (.ofNat 0))), some 15, none⟩, []⟩]
def r14_2 : List XLine := [⟨⟨.bin .lss 3 .num (.slot 15) (.slot 14), some 16, none⟩, []⟩]
def r14_3 : List XLine := [⟨⟨.mv (.slot 15), some 17, none⟩, []⟩,
  ⟨⟨.iaddr 1 (.slot 13) (.slot 15), some 18, none⟩, []⟩,
  ⟨⟨.load false 1 (.slot 18), some 19, none⟩, []⟩,
  ⟨⟨.mv (.slot 17), some 7, none⟩, []⟩,
  ⟨⟨.mv (.slot 19), some 8, none⟩, []⟩]
def r14_4 : List XLine := [⟨⟨.mv (.slot 0), some 21, none⟩, []⟩,
  ⟨⟨.mv (.slot 8), some 22, none⟩, []⟩,
  ⟨⟨.mv (.slot 1), some 23, none⟩, []⟩,
  ⟨⟨.bslice 1 [(.int .i64 (.ofNat 0))] [(0, 1, (.slot 23))] 1, some 24, none⟩, []⟩,
  ⟨⟨.call (.const (.func 9 [] [])) [(.slot 21), (.slot 22), (.slot 24), (.const (.bool false))], some 25, none⟩, []⟩,
  ⟨⟨.mv (.slot 25), some 20, none⟩, []⟩,
  ⟨⟨.extract (.slot 20) 0, some 26, none⟩, []⟩,
  ⟨⟨.extract (.slot 20) 1, some 27, none⟩, []⟩,
  ⟨⟨.mv (.slot 26), some 9, none⟩, []⟩,
  ⟨⟨.mv (.slot 27), some 10, none⟩, []⟩]
def r14_5 : List XLine := [⟨⟨.mv (.slot 10), some 28, none⟩, []⟩,
  ⟨⟨.bin .neq 27 .num (.slot 28) (.const (.int .i64 (.ofNat 0))), some 29, none⟩, []⟩]
def r14_6 : List XLine := [⟨⟨.mv (.slot 10), some 30, none⟩, []⟩,
  ⟨⟨.mv (.slot 30), some 6, none⟩, []⟩]
def r14_7 : List XLine := [⟨⟨.mv (.slot 0), some 31, none⟩, []⟩,
  ⟨⟨.mv (.slot 1), some 32, none⟩, []⟩,
  ⟨⟨.faddr 0 (.slot 5), some 33, none⟩, []⟩,
  ⟨⟨.load false 1 (.slot 33), some 34, none⟩, []⟩,
  ⟨⟨.mv (.slot 7), some 35, none⟩, []⟩,
  ⟨⟨.mv (.slot 7), some 36, none⟩, []⟩,
  ⟨⟨.bin .add 3 .num (.slot 36) (.const (.int .i64 (.ofNat 1))), some 37, none⟩, []⟩,
  ⟨⟨.slc 1 (.slot 34) (some (.slot 35)) (some (.slot 37)) none, some 38, none⟩, []⟩,
  ⟨⟨.call (.const (.func 34 [] [])) [(.slot 31), (.slot 32), (.slot 38)], some 39, none⟩, []⟩,
  ⟨⟨.mv (.slot 39), some 11, none⟩, []⟩]
def r14_8 : List XLine := [⟨⟨.mv (.slot 11), some 40, none⟩, []⟩,
  ⟨⟨.bin .neq 27 .num (.slot 40) (.const (.int .i64 (.ofNat 0))), some 41, none⟩, []⟩]
def r14_9 : List XLine := [⟨⟨.mv (.slot 11), some 42, none⟩, []⟩,
  ⟨⟨.mv (.slot 42), some 6, none⟩, []⟩]
def r14_10 : List XLine := [⟨⟨.mv (.slot 9), some 43, none⟩, []⟩,
  ⟨⟨.mv (.slot 43), some 1, none⟩, []⟩]
def r14_11 : List XLine := [⟨⟨.bin .add 3 .num (.slot 15) (.const (.int .i64 (.ofNat 1))), some 44, none⟩, []⟩,
  ⟨⟨.mv (.slot 44), some 15, none⟩, []⟩]
def r14_12 : List XLine := [⟨⟨.faddr 2 (.slot 5), some 45, none⟩, []⟩,
  ⟨⟨.load false 1 (.slot 45), some 46, none⟩, []⟩]
def r14_13 : List XLine := [⟨⟨.mv (.slot 0), some 47, none⟩, []⟩,
  ⟨⟨.mv (.slot 1), some 48, none⟩, []⟩,
  ⟨⟨.call (.const (.func 35 [] [])) [(.slot 47), (.slot 48), (.const (.int .i64 (.ofNat 0)))], some 49, none⟩, []⟩,
  ⟨⟨.mv (.slot 49), some 6, none⟩, []⟩]
def r14_14 : List XLine := [⟨⟨.mv (.slot 0), some 50, none⟩, []⟩,
  ⟨⟨.mv (.slot 1), some 51, none⟩, []⟩,
  ⟨⟨.faddr 0 (.slot 5), some 52, none⟩, []⟩,
  ⟨⟨.load false 1 (.slot 52), some 53, none⟩, []⟩,
  ⟨⟨.faddr 1 (.slot 5), some 54, none⟩, []⟩,
  ⟨⟨.load false 1 (.slot 54), some 55, none⟩, []⟩,
  ⟨⟨.len .slice (.slot 55), some 56, none⟩, []⟩,
  ⟨⟨.slc 1 (.slot 53) (some (.slot 56)) none none, some 57, none⟩, []⟩,
  ⟨⟨.call (.const (.func 34 [] [])) [(.slot 50), (.slot 51), (.slot 57)], some 58, none⟩, []⟩,
  ⟨⟨.mv (.slot 58), some 6, none⟩, []⟩]
def xf14 : XFunc := ⟨(.seq (.region false r14_0)
  (.seq (.seq (.region false r14_1)
  (.block 0 (.loop (.seq (.region false r14_2)
  (.seq (.cond (.slot 16)
  .skip
  (.exit 0))
  (.seq (.block 1 (.seq (.region false r14_3)
  (.seq (.region false r14_4)
  (.seq (.seq (.region false r14_5)
  (.cond (.slot 29)
  (.seq (.region false r14_6)
  .ret)
  .skip))
  (.seq (.seq (.region false r14_7)
  (.seq (.region false r14_8)
  (.cond (.slot 41)
  (.seq (.region false r14_9)
  .ret)
  .skip)))
  (.region false r14_10))))))
  (.region false r14_11)))))))
  (.seq (.seq (.region false r14_12)
  (.cond (.slot 46)
  (.seq (.region false r14_13)
  .ret)
  .skip))
  (.seq (.region false r14_14)
  .ret)))),
  [.tmp 6]⟩
theorem xf14_ok : compFunc Try.prog Try.f14 = some xf14 := by kernel_rfl
/- slices.Clone[[]threshing/api.Witness,threshing/api.Witness] -/
def r15_0 : List XLine := [⟨⟨.mv (.const .nils), some 2, none⟩, []⟩]
def r15_1 : List XLine := [⟨⟨.mv (.slot 0), some 3, none⟩, []⟩,
  ⟨⟨.bin .eql 30 .slice (.slot 3) (.const .nils), some 4, none⟩, []⟩]
def r15_2 : List XLine := [⟨⟨.mv (.const .nils), some 2, none⟩, []⟩]
def r15_3 : List XLine := [⟨⟨.bslice 2 [] [] 0, some 5, none⟩, []⟩,
  ⟨⟨.mv (.slot 0), some 6, none⟩, []⟩,
  ⟨⟨.append 2 48 (.slot 5) (.slot 6), some 7, none⟩, []⟩,
  ⟨⟨.mv (.slot 7), some 2, none⟩, []⟩]
def xf15 : XFunc := ⟨(.seq (.region false r15_0)
  (.seq (.seq (.region false r15_1)
  (.cond (.slot 4)
  (.seq (.region false r15_2)
  .ret)
  .skip))
  (.seq (.region false r15_3)
  .ret))),
  [.tmp 2]⟩
theorem xf15_ok : compFunc Try.prog Try.f15 = some xf15 := by kernel_rfl
/- slices.Clone[threshing/api.Clause,threshing/api.Lit] -/
def r16_0 : List XLine := [⟨⟨.mv (.const .nils), some 2, none⟩, []⟩]
def r16_1 : List XLine := [⟨⟨.mv (.slot 0), some 3, none⟩, []⟩,
  ⟨⟨.bin .eql 26 .slice (.slot 3) (.const .nils), some 4, none⟩, []⟩]
def r16_2 : List XLine := [⟨⟨.mv (.const .nils), some 2, none⟩, []⟩]
def r16_3 : List XLine := [⟨⟨.bslice 1 [] [] 0, some 5, none⟩, []⟩,
  ⟨⟨.mv (.slot 0), some 6, none⟩, []⟩,
  ⟨⟨.append 1 4 (.slot 5) (.slot 6), some 7, none⟩, []⟩,
  ⟨⟨.mv (.slot 7), some 2, none⟩, []⟩]
def xf16 : XFunc := ⟨(.seq (.region false r16_0)
  (.seq (.seq (.region false r16_1)
  (.cond (.slot 4)
  (.seq (.region false r16_2)
  .ret)
  .skip))
  (.seq (.region false r16_3)
  .ret))),
  [.tmp 2]⟩
theorem xf16_ok : compFunc Try.prog Try.f16 = some xf16 := by kernel_rfl
/- slices.Sorted[int64] -/
def r17_0 : List XLine := [⟨⟨.mv (.const .nils), some 2, none⟩, []⟩]
def r17_1 : List XLine := [⟨⟨.mv (.slot 0), some 4, none⟩, []⟩,
  ⟨⟨.call (.const (.func 36 [] [])) [(.slot 4)], some 5, none⟩, []⟩,
  ⟨⟨.mv (.slot 5), some 3, none⟩, []⟩]
def r17_2 : List XLine := [⟨⟨.mv (.slot 3), some 6, none⟩, []⟩,
  ⟨⟨.call (.const (.func 37 [] [])) [(.slot 6)], some 7, none⟩, []⟩]
def r17_3 : List XLine := [⟨⟨.mv (.slot 3), some 8, none⟩, []⟩,
  ⟨⟨.mv (.slot 8), some 2, none⟩, []⟩]
def xf17 : XFunc := ⟨(.seq (.region false r17_0)
  (.seq (.region false r17_1)
  (.seq (.region false r17_2)
  (.seq (.region false r17_3)
  .ret)))),
  [.tmp 2]⟩
theorem xf17_ok : compFunc Try.prog Try.f17 = some xf17 := by kernel_rfl
/- maps.Keys[map[int64]threshing/api.Entry,int64,threshing/api.Entry] -/
def r18_0 : List XLine := [⟨⟨.box (.slot 0), some 1, none⟩, []⟩,
  ⟨⟨.mv (.const .nilf), some 2, none⟩, []⟩]
def r18_1 : List XLine := [⟨⟨.mkfunc 38 [] [(.slot 1)], some 3, none⟩, []⟩,
  ⟨⟨.mv (.slot 3), some 2, none⟩, []⟩]
def xf18 : XFunc := ⟨(.seq (.region false r18_0)
  (.seq (.region false r18_1)
  .ret)),
  [.tmp 2]⟩
theorem xf18_ok : compFunc Try.prog Try.f18 = some xf18 := by kernel_rfl
/- threshing/base.entry -/
def r19_0 : List XLine := [⟨⟨.box (.slot 0), some 1, none⟩, []⟩,
  ⟨⟨.alloc [(.int .i64 (.ofNat 0)), .nils, (.bool false)], some 2, none⟩, []⟩]
def r19_1 : List XLine := [⟨⟨.faddr 1 (.slot 1), some 3, none⟩, []⟩,
  ⟨⟨.load false 1 (.slot 3), some 4, none⟩, []⟩,
  ⟨⟨.call (.const (.func 16 [] [])) [(.slot 4)], some 5, none⟩, []⟩,
  ⟨⟨.faddr 1 (.slot 1), some 6, none⟩, []⟩,
  ⟨⟨.store 1 (.slot 6) (.slot 5), none, none⟩, []⟩]
def r19_2 : List XLine := [⟨⟨.load true 3 (.slot 1), some 7, none⟩, []⟩,
  ⟨⟨.store 3 (.slot 2) (.slot 7), none, none⟩, []⟩]
def xf19 : XFunc := ⟨(.seq (.region false r19_0)
  (.seq (.region false r19_1)
  (.seq (.region false r19_2)
  .ret))),
  [.cell 2 true 3]⟩
theorem xf19_ok : compFunc Try.prog Try.f19 = some xf19 := by kernel_rfl
/- (*threshing/base.Base).full -/
def r20_0 : List XLine := [⟨⟨.mv (.const (.bool false)), some 2, none⟩, []⟩]
def r20_1 : List XLine := [⟨⟨.mv (.slot 0), some 3, none⟩, []⟩,
  ⟨⟨.nilCheck (.slot 3), some 4, none⟩, []⟩,
  ⟨⟨.faddr 5 (.slot 4), some 5, none⟩, []⟩,
  ⟨⟨.load false 1 (.slot 5), some 6, none⟩, []⟩,
  ⟨⟨.len .slice (.slot 6), some 7, none⟩, []⟩,
  ⟨⟨.bin .geq 3 .num (.slot 7) (.const (.int .i64 (.ofNat 4194304))), some 8, none⟩, []⟩,
  ⟨⟨.mv (.slot 8), some 2, none⟩, []⟩]
def xf20 : XFunc := ⟨(.seq (.region false r20_0)
  (.seq (.region false r20_1)
  .ret)),
  [.tmp 2]⟩
theorem xf20_ok : compFunc Try.prog Try.f20 = some xf20 := by kernel_rfl
/- (*threshing/base.Base).right -/
def r21_0 : List XLine := [⟨⟨.box (.slot 0), some 2, none⟩, []⟩,
  ⟨⟨.mv (.const (.bool false)), some 4, none⟩, []⟩]
def r21_1 : List XLine := [⟨⟨.mv (.slot 1), some 5, none⟩, []⟩,
  ⟨⟨.mkfunc 40 [] [(.slot 2)], some 6, none⟩, []⟩,
  ⟨⟨.call (.const (.func 39 [] [])) [(.slot 5), (.slot 6)], some 7, none⟩, []⟩,
  ⟨⟨.un .not (.slot 7), some 8, none⟩, []⟩,
  ⟨⟨.mv (.slot 8), some 4, none⟩, []⟩]
def xf21 : XFunc := ⟨(.seq (.region false r21_0)
  (.seq (.region false r21_1)
  .ret)),
  [.tmp 4]⟩
theorem xf21_ok : compFunc Try.prog Try.f21 = some xf21 := by kernel_rfl
/- (*threshing/base.Base).follows -/
def r22_0 : List XLine := [⟨⟨.mv (.const (.int .i64 (.ofNat 0))), some 6, none⟩, []⟩]
def r22_1 : List XLine := [⟨⟨.mkmap .i32, some 18, none⟩, []⟩,
  ⟨⟨.alloc [.nilm], some 7, none⟩, []⟩,
  ⟨⟨.store 1 (.slot 7) (.slot 18), none, none⟩, []⟩]
def r22_2 : List XLine := [⟨⟨.mkfunc 42 [] [(.slot 7)], some 19, none⟩, []⟩,
  ⟨⟨.mv (.slot 19), some 8, none⟩, []⟩]
def r22_3 : List XLine := [⟨⟨.mv (.slot 1), some 20, none⟩, []⟩,
  ⟨⟨.len .slice (.slot 20), some 21, none⟩, []⟩,
  ⟨⟨.mv (.const (.int .i64 (.ofNat 0))), some 22, none⟩, []⟩]
def r22_4 : List XLine := [⟨⟨.bin .lss 3 .num (.slot 22) (.slot 21), some 23, none⟩, []⟩]
def r22_5 : List XLine := [⟨⟨.iaddr 1 (.slot 20) (.slot 22), some 24, none⟩, []⟩,
  ⟨⟨.load false 1 (.slot 24), some 25, none⟩, []⟩,
  ⟨⟨.mv (.slot 25), some 10, none⟩, []⟩]
def r22_6 : List XLine := [⟨⟨.mv (.slot 8), some 26, none⟩, []⟩,
  ⟨⟨.mv (.slot 10), some 27, none⟩, []⟩,
  ⟨⟨.call (.slot 26) [(.slot 27)], some 28, none⟩, []⟩]
def r22_7 : List XLine := [⟨⟨.mv (.const (.int .i64 (.ofNat 0))), some 6, none⟩, []⟩]
def r22_8 : List XLine := [⟨⟨.bin .add 3 .num (.slot 22) (.const (.int .i64 (.ofNat 1))), some 29, none⟩, []⟩,
  ⟨⟨.mv (.slot 29), some 22, none⟩, []⟩]
def r22_9 : List XLine := [⟨⟨.mv (.slot 2), some 30, none⟩, []⟩,
  ⟨⟨.len .slice (.slot 30), some 31, none⟩, []⟩,
  ⟨⟨.mv (.const (.int .i64 (.ofNat 0))), some 32, none⟩, []⟩]
def r22_10 : List XLine := [⟨⟨.bin .lss 3 .num (.slot 32) (.slot 31), some 33, none⟩, []⟩]
def r22_11 : List XLine := [⟨⟨.iaddr 1 (.slot 30) (.slot 32), some 34, none⟩, []⟩,
  ⟨⟨.load false 1 (.slot 34), some 35, none⟩, []⟩,
  ⟨⟨.mv (.slot 35), some 12, none⟩, []⟩]
def r22_12 : List XLine := [⟨⟨.mv (.slot 0), some 37, none⟩, []⟩,
  ⟨⟨.nilCheck (.slot 37), some 38, none⟩, []⟩,
  ⟨⟨.faddr 1 (.slot 38), some 39, none⟩, []⟩,
  ⟨⟨.load false 1 (.slot 39), some 40, none⟩, []⟩,
  ⟨⟨.mv (.slot 12), some 41, none⟩, []⟩,
  ⟨⟨.lookup .i64 (.agg [(.int .i64 (.ofNat 0)), .nils, (.bool false)]) (.slot 40) (.slot 41) true, some 42, none⟩, []⟩,
  ⟨⟨.mv (.slot 42), some 36, none⟩, []⟩,
  ⟨⟨.extract (.slot 36) 0, some 43, none⟩, []⟩,
  ⟨⟨.extract (.slot 36) 1, some 44, none⟩, []⟩,
  ⟨⟨.alloc [(.int .i64 (.ofNat 0)), .nils, (.bool false)], some 13, none⟩, []⟩,
  ⟨⟨.store 3 (.slot 13) (.slot 43), none, none⟩, []⟩,
  ⟨⟨.mv (.slot 44), some 14, none⟩, []⟩]
def r22_13 : List XLine := [⟨⟨.mv (.slot 14), some 45, none⟩, []⟩,
  ⟨⟨.un .not (.slot 45), some 46, none⟩, []⟩]
def r22_14 : List XLine := [⟨⟨.mv (.const (.int .i64 (.ofNat 60))), some 6, none⟩, []⟩]
def r22_15 : List XLine := [⟨⟨.mv (.const (.int .i32 (.ofNat 0))), some 15, none⟩, []⟩]
def r22_16 : List XLine := [⟨⟨.faddr 1 (.slot 13), some 47, none⟩, []⟩,
  ⟨⟨.load false 1 (.slot 47), some 48, none⟩, []⟩,
  ⟨⟨.len .slice (.slot 48), some 49, none⟩, []⟩,
  ⟨⟨.mv (.const (.int .i64 (.ofNat 0))), some 50, none⟩, []⟩]
def r22_17 : List XLine := [⟨⟨.bin .lss 3 .num (.slot 50) (.slot 49), some 51, none⟩, []⟩]
def r22_18 : List XLine := [⟨⟨.iaddr 1 (.slot 48) (.slot 50), some 52, none⟩, []⟩,
  ⟨⟨.load false 1 (.slot 52), some 53, none⟩, []⟩,
  ⟨⟨.mv (.slot 53), some 17, none⟩, []⟩]
def r22_19 : List XLine := [⟨⟨.load false 1 (.slot 7), some 56, none⟩, []⟩,
  ⟨⟨.mv (.slot 17), some 57, none⟩, []⟩,
  ⟨⟨.lookup .i32 (.bool false) (.slot 56) (.slot 57) false, some 58, none⟩, []⟩,
  ⟨⟨.mv (.slot 58), some 55, none⟩, []⟩]
def r22_20 : List XLine := [⟨⟨.mv (.slot 17), some 59, none⟩, []⟩,
  ⟨⟨.mv (.slot 15), some 60, none⟩, []⟩,
  ⟨⟨.bin .eql 24 .num (.slot 59) (.slot 60), some 61, none⟩, []⟩,
  ⟨⟨.mv (.slot 61), some 55, none⟩, []⟩]
def r22_21 : List XLine := [⟨⟨.mv (.slot 15), some 63, none⟩, []⟩,
  ⟨⟨.bin .neq 24 .num (.slot 63) (.const (.int .i32 (.ofNat 0))), some 64, none⟩, []⟩,
  ⟨⟨.mv (.slot 64), some 62, none⟩, []⟩]
def r22_22 : List XLine := [⟨⟨.mv (.const (.int .i64 (.ofNat 60))), some 6, none⟩, []⟩]
def r22_23 : List XLine := [⟨⟨.mv (.slot 17), some 54, none⟩, []⟩,
  ⟨⟨.mv (.slot 54), some 15, none⟩, []⟩]
def r22_24 : List XLine := [⟨⟨.bin .add 3 .num (.slot 50) (.const (.int .i64 (.ofNat 1))), some 65, none⟩, []⟩,
  ⟨⟨.mv (.slot 65), some 50, none⟩, []⟩]
def r22_25 : List XLine := [⟨⟨.mv (.slot 15), some 67, none⟩, []⟩,
  ⟨⟨.bin .eql 24 .num (.slot 67) (.const (.int .i32 (.ofNat 0))), some 68, none⟩, []⟩,
  ⟨⟨.mv (.slot 68), some 66, none⟩, []⟩]
def r22_26 : List XLine := [⟨⟨.mv (.const (.int .i64 (.ofNat 0))), some 6, none⟩, []⟩]
def r22_27 : List XLine := [⟨⟨.load false 1 (.slot 7), some 70, none⟩, []⟩,
  ⟨⟨.mv (.slot 15), some 71, none⟩, []⟩,
  ⟨⟨.un .neg (.slot 71), some 72, none⟩, []⟩,
  ⟨⟨.lookup .i32 (.bool false) (.slot 70) (.slot 72) false, some 73, none⟩, []⟩,
  ⟨⟨.mv (.slot 73), some 69, none⟩, []⟩]
def r22_28 : List XLine := [⟨⟨.mv (.const (.int .i64 (.ofNat 60))), some 6, none⟩, []⟩]
def r22_29 : List XLine := [⟨⟨.mv (.slot 8), some 74, none⟩, []⟩,
  ⟨⟨.mv (.slot 15), some 75, none⟩, []⟩,
  ⟨⟨.un .neg (.slot 75), some 76, none⟩, []⟩,
  ⟨⟨.call (.slot 74) [(.slot 76)], some 77, none⟩, []⟩]
def r22_30 : List XLine := [⟨⟨.bin .add 3 .num (.slot 32) (.const (.int .i64 (.ofNat 1))), some 78, none⟩, []⟩,
  ⟨⟨.mv (.slot 78), some 32, none⟩, []⟩]
def r22_31 : List XLine := [⟨⟨.mv (.const (.int .i64 (.ofNat 61))), some 6, none⟩, []⟩]
def xf22 : XFunc := ⟨(.seq (.region false r22_0)
  (.seq (.region false r22_1)
  (.seq (.region false r22_2)
  (.seq (.seq (.region false r22_3)
  (.block 0 (.loop (.seq (.region false r22_4)
  (.seq (.cond (.slot 23)
  .skip
  (.exit 0))
  (.seq (.block 1 (.seq (.region false r22_5)
  (.seq (.region false r22_6)
  (.cond (.slot 28)
  (.seq (.region false r22_7)
  .ret)
  .skip))))
  (.region false r22_8)))))))
  (.seq (.seq (.region false r22_9)
  (.block 2 (.loop (.seq (.region false r22_10)
  (.seq (.cond (.slot 33)
  .skip
  (.exit 2))
  (.seq (.block 3 (.seq (.region false r22_11)
  (.seq (.region false r22_12)
  (.seq (.seq (.region false r22_13)
  (.cond (.slot 46)
  (.seq (.region false r22_14)
  .ret)
  .skip))
  (.seq (.region false r22_15)
  (.seq (.seq (.region false r22_16)
  (.block 4 (.loop (.seq (.region false r22_17)
  (.seq (.cond (.slot 51)
  .skip
  (.exit 4))
  (.seq (.block 5 (.seq (.region false r22_18)
  (.block 6 (.seq (.seq (.region false r22_19)
  (.cond (.slot 55)
  .skip
  (.region false r22_20)))
  (.cond (.slot 55)
  .skip
  (.seq (.region false r22_21)
  (.cond (.slot 62)
  (.seq (.region false r22_22)
  .ret)
  (.region false r22_23))))))))
  (.region false r22_24)))))))
  (.seq (.block 7 (.seq (.region false r22_25)
  (.cond (.slot 66)
  (.seq (.region false r22_26)
  .ret)
  (.seq (.region false r22_27)
  (.cond (.slot 69)
  (.seq (.region false r22_28)
  .ret)
  .skip)))))
  (.region false r22_29))))))))
  (.region false r22_30)))))))
  (.seq (.region false r22_31)
  .ret)))))),
  [.tmp 6]⟩
theorem xf22_ok : compFunc Try.prog Try.f22 = some xf22 := by kernel_rfl
end Go.Proofs.Ytaljkapnfkbdbaa

/- The functions of the program in X's code, printed by a program of ours; each is what the program's own is turned to. -/
import Derived.Test.YtdceckhkmfbpmaaGreatProg
import Derived.Test.YtdceckhkmfbpmaaGreatXc
import Derived.KernelRfl
namespace Go.Proofs.YtdceckhkmfbpmaaGreat
open Go.Xr
/-- gosem.cut.init -/
def xf2 : XFunc := ⟨(.region false [⟨⟨.call (.const (.func 1 [] [])) [], some 0, none⟩, []⟩]),
  []⟩
theorem xf2_ok : compFunc Tryz.prog Tryz.f2 = some xf2 := by kernel_rfl
/-- threshing/threshinglaw27.ElimKnown -/
def xf3 : XFunc := ⟨(.seq (.region false [⟨⟨.mv (.const (.bool false)), some 0, none⟩, []⟩])
  (.seq (.region false [⟨⟨.bslice 1 [(.int .i32 (.ofNat 0)), (.int .i32 (.ofNat 0))] [(0, 1, (.const (.int .i32 (.ofNat 1)))), (1, 1, (.const (.int .i32 (.ofNat 2))))] 2, some 46, none⟩, []⟩,
    ⟨⟨.bslice 1 [(.int .i32 (.ofNat 0)), (.int .i32 (.ofNat 0))] [(0, 1, (.const (.int .i32 (.negSucc 0)))), (1, 1, (.const (.int .i32 (.ofNat 3))))] 2, some 47, none⟩, []⟩,
    ⟨⟨.bslice 1 [.nils, .nils] [(0, 1, (.slot 46)), (1, 1, (.slot 47))] 2, some 48, none⟩, []⟩,
    ⟨⟨.call (.const (.func 4 [] [])) [(.slot 48)], some 49, none⟩, []⟩,
    ⟨⟨.mv (.slot 49), some 1, none⟩, []⟩])
  (.seq (.region false [⟨⟨.mv (.slot 1), some 51, none⟩, []⟩,
    ⟨⟨.call (.const (.func 5 [] [])) [(.slot 51), (.const (.int .i64 (.ofNat 10))), (.const (.int .i64 (.ofNat 9))), (.const (.bool false))], some 52, none⟩, []⟩,
    ⟨⟨.mv (.slot 52), some 50, none⟩, []⟩,
    ⟨⟨.extract (.slot 50) 0, some 53, none⟩, []⟩,
    ⟨⟨.extract (.slot 50) 1, some 54, none⟩, []⟩,
    ⟨⟨.mv (.slot 53), some 2, none⟩, []⟩,
    ⟨⟨.mv (.slot 54), some 3, none⟩, []⟩])
  (.seq (.region false [⟨⟨.mv (.slot 2), some 55, none⟩, []⟩,
    ⟨⟨.bin .eql 3 .num (.slot 55) (.const (.int .i64 (.ofNat 2))), some 56, none⟩, []⟩,
    ⟨⟨.mv (.slot 56), some 57, none⟩, []⟩,
    ⟨⟨.mv (.slot 3), some 58, some (57, true)⟩, []⟩,
    ⟨⟨.bin .eql 27 .num (.slot 58) (.const (.int .i64 (.ofNat 0))), some 59, some (57, true)⟩, []⟩,
    ⟨⟨.pick (.slot 57) (.slot 59) (.const (.bool false)), some 60, none⟩, []⟩,
    ⟨⟨.mv (.slot 60), some 61, none⟩, []⟩,
    ⟨⟨.mv (.slot 1), some 62, some (61, true)⟩, []⟩,
    ⟨⟨.call (.const (.func 6 [] [])) [(.slot 62)], some 63, some (61, true)⟩, []⟩,
    ⟨⟨.len .slice (.slot 63), some 64, some (61, true)⟩, []⟩,
    ⟨⟨.bin .eql 3 .num (.slot 64) (.const (.int .i64 (.ofNat 0))), some 65, some (61, true)⟩, []⟩,
    ⟨⟨.pick (.slot 61) (.slot 65) (.const (.bool false)), some 66, none⟩, []⟩,
    ⟨⟨.mv (.slot 66), some 67, none⟩, []⟩,
    ⟨⟨.mv (.slot 1), some 68, some (67, true)⟩, []⟩,
    ⟨⟨.call (.const (.func 7 [] [])) [(.slot 68)], some 69, some (67, true)⟩, []⟩,
    ⟨⟨.len .slice (.slot 69), some 70, some (67, true)⟩, []⟩,
    ⟨⟨.bin .eql 3 .num (.slot 70) (.const (.int .i64 (.ofNat 3))), some 71, some (67, true)⟩, []⟩,
    ⟨⟨.pick (.slot 67) (.slot 71) (.const (.bool false)), some 72, none⟩, []⟩,
    ⟨⟨.mv (.slot 72), some 4, none⟩, []⟩])
  (.seq (.region false [⟨⟨.bslice 1 [(.int .i32 (.ofNat 0)), (.int .i32 (.ofNat 0))] [(0, 1, (.const (.int .i32 (.ofNat 1)))), (1, 1, (.const (.int .i32 (.ofNat 2))))] 2, some 73, none⟩, []⟩,
    ⟨⟨.bslice 1 [(.int .i32 (.ofNat 0)), (.int .i32 (.ofNat 0))] [(0, 1, (.const (.int .i32 (.negSucc 0)))), (1, 1, (.const (.int .i32 (.negSucc 1))))] 2, some 74, none⟩, []⟩,
    ⟨⟨.bslice 1 [.nils, .nils] [(0, 1, (.slot 73)), (1, 1, (.slot 74))] 2, some 75, none⟩, []⟩,
    ⟨⟨.call (.const (.func 4 [] [])) [(.slot 75)], some 76, none⟩, []⟩,
    ⟨⟨.mv (.slot 76), some 5, none⟩, []⟩])
  (.seq (.region false [⟨⟨.mv (.slot 5), some 78, none⟩, []⟩,
    ⟨⟨.call (.const (.func 5 [] [])) [(.slot 78), (.const (.int .i64 (.ofNat 10))), (.const (.int .i64 (.ofNat 9))), (.const (.bool false))], some 79, none⟩, []⟩,
    ⟨⟨.mv (.slot 79), some 77, none⟩, []⟩,
    ⟨⟨.extract (.slot 77) 0, some 80, none⟩, []⟩,
    ⟨⟨.extract (.slot 77) 1, some 81, none⟩, []⟩,
    ⟨⟨.mv (.slot 80), some 6, none⟩, []⟩,
    ⟨⟨.mv (.slot 81), some 7, none⟩, []⟩])
  (.seq (.region false [⟨⟨.mv (.slot 6), some 82, none⟩, []⟩,
    ⟨⟨.bin .eql 3 .num (.slot 82) (.const (.int .i64 (.ofNat 1))), some 83, none⟩, []⟩,
    ⟨⟨.mv (.slot 83), some 84, none⟩, []⟩,
    ⟨⟨.mv (.slot 7), some 85, some (84, true)⟩, []⟩,
    ⟨⟨.bin .eql 27 .num (.slot 85) (.const (.int .i64 (.ofNat 0))), some 86, some (84, true)⟩, []⟩,
    ⟨⟨.pick (.slot 84) (.slot 86) (.const (.bool false)), some 87, none⟩, []⟩,
    ⟨⟨.mv (.slot 87), some 88, none⟩, []⟩,
    ⟨⟨.mv (.slot 5), some 89, some (88, true)⟩, []⟩,
    ⟨⟨.call (.const (.func 6 [] [])) [(.slot 89)], some 90, some (88, true)⟩, []⟩,
    ⟨⟨.len .slice (.slot 90), some 91, some (88, true)⟩, []⟩,
    ⟨⟨.bin .eql 3 .num (.slot 91) (.const (.int .i64 (.ofNat 0))), some 92, some (88, true)⟩, []⟩,
    ⟨⟨.pick (.slot 88) (.slot 92) (.const (.bool false)), some 93, none⟩, []⟩,
    ⟨⟨.mv (.slot 93), some 94, none⟩, []⟩,
    ⟨⟨.mv (.slot 5), some 95, some (94, true)⟩, []⟩,
    ⟨⟨.call (.const (.func 8 [] [])) [(.slot 95)], some 96, some (94, true)⟩, []⟩,
    ⟨⟨.bin .eql 2 .num (.slot 96) (.const (.int .i64 (.ofNat 2))), some 97, some (94, true)⟩, []⟩,
    ⟨⟨.pick (.slot 94) (.slot 97) (.const (.bool false)), some 98, none⟩, []⟩,
    ⟨⟨.mv (.slot 98), some 8, none⟩, []⟩])
  (.seq (.region false [⟨⟨.bslice 1 [(.int .i32 (.ofNat 0))] [(0, 1, (.const (.int .i32 (.ofNat 1))))] 1, some 99, none⟩, []⟩,
    ⟨⟨.bslice 1 [(.int .i32 (.ofNat 0))] [(0, 1, (.const (.int .i32 (.negSucc 0))))] 1, some 100, none⟩, []⟩,
    ⟨⟨.bslice 1 [(.int .i32 (.ofNat 0)), (.int .i32 (.ofNat 0))] [(0, 1, (.const (.int .i32 (.ofNat 2)))), (1, 1, (.const (.int .i32 (.ofNat 3))))] 2, some 101, none⟩, []⟩,
    ⟨⟨.bslice 1 [.nils, .nils, .nils] [(0, 1, (.slot 99)), (1, 1, (.slot 100)), (2, 1, (.slot 101))] 3, some 102, none⟩, []⟩,
    ⟨⟨.call (.const (.func 4 [] [])) [(.slot 102)], some 103, none⟩, []⟩,
    ⟨⟨.mv (.slot 103), some 9, none⟩, []⟩])
  (.seq (.region false [⟨⟨.mv (.slot 9), some 105, none⟩, []⟩,
    ⟨⟨.call (.const (.func 5 [] [])) [(.slot 105), (.const (.int .i64 (.ofNat 10))), (.const (.int .i64 (.ofNat 9))), (.const (.bool true))], some 106, none⟩, []⟩,
    ⟨⟨.mv (.slot 106), some 104, none⟩, []⟩,
    ⟨⟨.extract (.slot 104) 0, some 107, none⟩, []⟩,
    ⟨⟨.extract (.slot 104) 1, some 108, none⟩, []⟩,
    ⟨⟨.mv (.slot 107), some 10, none⟩, []⟩,
    ⟨⟨.mv (.slot 108), some 11, none⟩, []⟩])
  (.seq (.region false [⟨⟨.mv (.slot 9), some 110, none⟩, []⟩,
    ⟨⟨.call (.const (.func 9 [] [])) [(.slot 110)], some 111, none⟩, []⟩,
    ⟨⟨.mv (.slot 111), some 109, none⟩, []⟩,
    ⟨⟨.extract (.slot 109) 0, some 112, none⟩, []⟩,
    ⟨⟨.extract (.slot 109) 1, some 113, none⟩, []⟩,
    ⟨⟨.mv (.slot 112), some 12, none⟩, []⟩,
    ⟨⟨.mv (.slot 113), some 13, none⟩, []⟩])
  (.seq (.region false [⟨⟨.mv (.slot 10), some 114, none⟩, []⟩,
    ⟨⟨.bin .eql 3 .num (.slot 114) (.const (.int .i64 (.ofNat 1))), some 115, none⟩, []⟩,
    ⟨⟨.mv (.slot 115), some 116, none⟩, []⟩,
    ⟨⟨.mv (.slot 11), some 117, some (116, true)⟩, []⟩,
    ⟨⟨.bin .eql 27 .num (.slot 117) (.const (.int .i64 (.ofNat 0))), some 118, some (116, true)⟩, []⟩,
    ⟨⟨.pick (.slot 116) (.slot 118) (.const (.bool false)), some 119, none⟩, []⟩,
    ⟨⟨.mv (.slot 119), some 120, none⟩, []⟩,
    ⟨⟨.mv (.slot 13), some 121, some (120, true)⟩, []⟩,
    ⟨⟨.pick (.slot 120) (.slot 121) (.const (.bool false)), some 122, none⟩, []⟩,
    ⟨⟨.mv (.slot 122), some 123, none⟩, []⟩,
    ⟨⟨.mv (.slot 12), some 124, some (123, true)⟩, []⟩,
    ⟨⟨.bin .eql 2 .num (.slot 124) (.const (.int .i64 (.ofNat 4))), some 125, some (123, true)⟩, []⟩,
    ⟨⟨.pick (.slot 123) (.slot 125) (.const (.bool false)), some 126, none⟩, []⟩,
    ⟨⟨.mv (.slot 126), some 14, none⟩, []⟩])
  (.seq (.region false [⟨⟨.bslice 1 [(.int .i32 (.ofNat 0)), (.int .i32 (.ofNat 0))] [(0, 1, (.const (.int .i32 (.ofNat 1)))), (1, 1, (.const (.int .i32 (.ofNat 2))))] 2, some 127, none⟩, []⟩,
    ⟨⟨.bslice 1 [(.int .i32 (.ofNat 0)), (.int .i32 (.ofNat 0))] [(0, 1, (.const (.int .i32 (.ofNat 1)))), (1, 1, (.const (.int .i32 (.ofNat 3))))] 2, some 128, none⟩, []⟩,
    ⟨⟨.bslice 1 [(.int .i32 (.ofNat 0)), (.int .i32 (.ofNat 0))] [(0, 1, (.const (.int .i32 (.negSucc 0)))), (1, 1, (.const (.int .i32 (.ofNat 4))))] 2, some 129, none⟩, []⟩,
    ⟨⟨.bslice 1 [.nils, .nils, .nils] [(0, 1, (.slot 127)), (1, 1, (.slot 128)), (2, 1, (.slot 129))] 3, some 130, none⟩, []⟩,
    ⟨⟨.call (.const (.func 4 [] [])) [(.slot 130)], some 131, none⟩, []⟩,
    ⟨⟨.mv (.slot 131), some 15, none⟩, []⟩])
  (.seq (.region false [⟨⟨.mv (.slot 15), some 133, none⟩, []⟩,
    ⟨⟨.call (.const (.func 5 [] [])) [(.slot 133), (.const (.int .i64 (.ofNat 1))), (.const (.int .i64 (.ofNat 1))), (.const (.bool false))], some 134, none⟩, []⟩,
    ⟨⟨.mv (.slot 134), some 132, none⟩, []⟩,
    ⟨⟨.extract (.slot 132) 0, some 135, none⟩, []⟩,
    ⟨⟨.extract (.slot 132) 1, some 136, none⟩, []⟩,
    ⟨⟨.mv (.slot 135), some 16, none⟩, []⟩,
    ⟨⟨.mv (.slot 136), some 17, none⟩, []⟩])
  (.seq (.region false [⟨⟨.mv (.slot 16), some 137, none⟩, []⟩,
    ⟨⟨.bin .eql 3 .num (.slot 137) (.const (.int .i64 (.ofNat 1))), some 138, none⟩, []⟩,
    ⟨⟨.mv (.slot 138), some 139, none⟩, []⟩,
    ⟨⟨.mv (.slot 17), some 140, some (139, true)⟩, []⟩,
    ⟨⟨.bin .eql 27 .num (.slot 140) (.const (.int .i64 (.ofNat 0))), some 141, some (139, true)⟩, []⟩,
    ⟨⟨.pick (.slot 139) (.slot 141) (.const (.bool false)), some 142, none⟩, []⟩,
    ⟨⟨.mv (.slot 142), some 143, none⟩, []⟩,
    ⟨⟨.mv (.slot 15), some 144, some (143, true)⟩, []⟩,
    ⟨⟨.call (.const (.func 10 [] [])) [(.slot 144), (.const (.int .i32 (.ofNat 2)))], some 145, some (143, true)⟩, []⟩,
    ⟨⟨.len .slice (.slot 145), some 146, some (143, true)⟩, []⟩,
    ⟨⟨.bin .eql 3 .num (.slot 146) (.const (.int .i64 (.ofNat 0))), some 147, some (143, true)⟩, []⟩,
    ⟨⟨.pick (.slot 143) (.slot 147) (.const (.bool false)), some 148, none⟩, []⟩,
    ⟨⟨.mv (.slot 148), some 149, none⟩, []⟩,
    ⟨⟨.mv (.slot 15), some 150, some (149, true)⟩, []⟩,
    ⟨⟨.call (.const (.func 10 [] [])) [(.slot 150), (.const (.int .i32 (.ofNat 1)))], some 151, some (149, true)⟩, []⟩,
    ⟨⟨.len .slice (.slot 151), some 152, some (149, true)⟩, []⟩,
    ⟨⟨.bin .eql 3 .num (.slot 152) (.const (.int .i64 (.ofNat 1))), some 153, some (149, true)⟩, []⟩,
    ⟨⟨.pick (.slot 149) (.slot 153) (.const (.bool false)), some 154, none⟩, []⟩,
    ⟨⟨.mv (.slot 154), some 18, none⟩, []⟩])
  (.seq (.region false [⟨⟨.bslice 1 [(.int .i32 (.ofNat 0)), (.int .i32 (.ofNat 0))] [(0, 1, (.const (.int .i32 (.ofNat 1)))), (1, 1, (.const (.int .i32 (.negSucc 0))))] 2, some 155, none⟩, []⟩,
    ⟨⟨.bslice 1 [(.int .i32 (.ofNat 0)), (.int .i32 (.ofNat 0))] [(0, 1, (.const (.int .i32 (.ofNat 1)))), (1, 1, (.const (.int .i32 (.ofNat 2))))] 2, some 156, none⟩, []⟩,
    ⟨⟨.bslice 1 [.nils, .nils] [(0, 1, (.slot 155)), (1, 1, (.slot 156))] 2, some 157, none⟩, []⟩,
    ⟨⟨.call (.const (.func 4 [] [])) [(.slot 157)], some 158, none⟩, []⟩,
    ⟨⟨.mv (.slot 158), some 19, none⟩, []⟩])
  (.seq (.region false [⟨⟨.mv (.slot 19), some 160, none⟩, []⟩,
    ⟨⟨.call (.const (.func 5 [] [])) [(.slot 160), (.const (.int .i64 (.ofNat 9))), (.const (.int .i64 (.ofNat 1))), (.const (.bool false))], some 161, none⟩, []⟩,
    ⟨⟨.mv (.slot 161), some 159, none⟩, []⟩,
    ⟨⟨.extract (.slot 159) 0, some 162, none⟩, []⟩,
    ⟨⟨.extract (.slot 159) 1, some 163, none⟩, []⟩,
    ⟨⟨.mv (.slot 162), some 20, none⟩, []⟩,
    ⟨⟨.mv (.slot 163), some 21, none⟩, []⟩])
  (.seq (.region false [⟨⟨.mv (.slot 20), some 164, none⟩, []⟩,
    ⟨⟨.bin .eql 3 .num (.slot 164) (.const (.int .i64 (.ofNat 1))), some 165, none⟩, []⟩,
    ⟨⟨.mv (.slot 165), some 166, none⟩, []⟩,
    ⟨⟨.mv (.slot 21), some 167, some (166, true)⟩, []⟩,
    ⟨⟨.bin .eql 27 .num (.slot 167) (.const (.int .i64 (.ofNat 0))), some 168, some (166, true)⟩, []⟩,
    ⟨⟨.pick (.slot 166) (.slot 168) (.const (.bool false)), some 169, none⟩, []⟩,
    ⟨⟨.mv (.slot 169), some 170, none⟩, []⟩,
    ⟨⟨.mv (.slot 19), some 171, some (170, true)⟩, []⟩,
    ⟨⟨.call (.const (.func 10 [] [])) [(.slot 171), (.const (.int .i32 (.ofNat 2)))], some 172, some (170, true)⟩, []⟩,
    ⟨⟨.len .slice (.slot 172), some 173, some (170, true)⟩, []⟩,
    ⟨⟨.bin .eql 3 .num (.slot 173) (.const (.int .i64 (.ofNat 0))), some 174, some (170, true)⟩, []⟩,
    ⟨⟨.pick (.slot 170) (.slot 174) (.const (.bool false)), some 175, none⟩, []⟩,
    ⟨⟨.mv (.slot 175), some 176, none⟩, []⟩,
    ⟨⟨.mv (.slot 19), some 177, some (176, true)⟩, []⟩,
    ⟨⟨.call (.const (.func 10 [] [])) [(.slot 177), (.const (.int .i32 (.ofNat 1)))], some 178, some (176, true)⟩, []⟩,
    ⟨⟨.len .slice (.slot 178), some 179, some (176, true)⟩, []⟩,
    ⟨⟨.bin .eql 3 .num (.slot 179) (.const (.int .i64 (.ofNat 1))), some 180, some (176, true)⟩, []⟩,
    ⟨⟨.pick (.slot 176) (.slot 180) (.const (.bool false)), some 181, none⟩, []⟩,
    ⟨⟨.mv (.slot 181), some 22, none⟩, []⟩])
  (.seq (.region false [⟨⟨.bslice 1 [(.int .i32 (.ofNat 0)), (.int .i32 (.ofNat 0))] [(0, 1, (.const (.int .i32 (.ofNat 1)))), (1, 1, (.const (.int .i32 (.ofNat 2))))] 2, some 182, none⟩, []⟩,
    ⟨⟨.bslice 1 [(.int .i32 (.ofNat 0)), (.int .i32 (.ofNat 0)), (.int .i32 (.ofNat 0))] [(0, 1, (.const (.int .i32 (.ofNat 1)))), (1, 1, (.const (.int .i32 (.negSucc 1)))), (2, 1, (.const (.int .i32 (.ofNat 3))))] 3, some 183, none⟩, []⟩,
    ⟨⟨.bslice 1 [(.int .i32 (.ofNat 0)), (.int .i32 (.ofNat 0))] [(0, 1, (.const (.int .i32 (.negSucc 0)))), (1, 1, (.const (.int .i32 (.ofNat 4))))] 2, some 184, none⟩, []⟩,
    ⟨⟨.bslice 1 [.nils, .nils, .nils] [(0, 1, (.slot 182)), (1, 1, (.slot 183)), (2, 1, (.slot 184))] 3, some 185, none⟩, []⟩,
    ⟨⟨.call (.const (.func 4 [] [])) [(.slot 185)], some 186, none⟩, []⟩,
    ⟨⟨.mv (.slot 186), some 23, none⟩, []⟩])
  (.seq (.region false [⟨⟨.mv (.slot 23), some 188, none⟩, []⟩,
    ⟨⟨.bslice 1 [(.int .i32 (.ofNat 0)), (.int .i32 (.ofNat 0))] [(0, 1, (.const (.int .i32 (.ofNat 1)))), (1, 1, (.const (.int .i32 (.ofNat 3))))] 2, some 189, none⟩, []⟩,
    ⟨⟨.bslice 1 [(.int .i64 (.ofNat 0)), (.int .i64 (.ofNat 0))] [(0, 1, (.const (.int .i64 (.ofNat 1)))), (1, 1, (.const (.int .i64 (.ofNat 2))))] 2, some 190, none⟩, []⟩,
    ⟨⟨.call (.const (.func 11 [] [])) [(.slot 188), (.slot 189), (.slot 190), (.const (.bool true))], some 191, none⟩, []⟩,
    ⟨⟨.mv (.slot 191), some 187, none⟩, []⟩,
    ⟨⟨.extract (.slot 187) 0, some 192, none⟩, []⟩,
    ⟨⟨.extract (.slot 187) 1, some 193, none⟩, []⟩,
    ⟨⟨.mv (.slot 192), some 24, none⟩, []⟩,
    ⟨⟨.mv (.slot 193), some 25, none⟩, []⟩])
  (.seq (.region false [⟨⟨.mv (.slot 23), some 195, none⟩, []⟩,
    ⟨⟨.call (.const (.func 5 [] [])) [(.slot 195), (.const (.int .i64 (.ofNat 9))), (.const (.int .i64 (.ofNat 1))), (.const (.bool false))], some 196, none⟩, []⟩,
    ⟨⟨.mv (.slot 196), some 194, none⟩, []⟩,
    ⟨⟨.extract (.slot 194) 0, some 197, none⟩, []⟩,
    ⟨⟨.extract (.slot 194) 1, some 198, none⟩, []⟩,
    ⟨⟨.mv (.slot 197), some 26, none⟩, []⟩,
    ⟨⟨.mv (.slot 198), some 27, none⟩, []⟩])
  (.seq (.region false [⟨⟨.mv (.slot 23), some 200, none⟩, []⟩,
    ⟨⟨.mv (.slot 24), some 201, none⟩, []⟩,
    ⟨⟨.call (.const (.func 12 [] [])) [(.slot 200), (.slot 201)], some 202, none⟩, []⟩,
    ⟨⟨.mv (.slot 202), some 199, none⟩, []⟩,
    ⟨⟨.extract (.slot 199) 0, some 203, none⟩, []⟩,
    ⟨⟨.extract (.slot 199) 1, some 204, none⟩, []⟩,
    ⟨⟨.alloc [(.int .i64 (.ofNat 0)), .nils, (.bool false)], some 28, none⟩, []⟩,
    ⟨⟨.store 3 (.slot 28) (.slot 203), none, none⟩, []⟩,
    ⟨⟨.mv (.slot 204), some 29, none⟩, []⟩])
  (.seq (.region false [⟨⟨.bslice 1 [(.int .i32 (.ofNat 0)), (.int .i32 (.ofNat 0)), (.int .i32 (.ofNat 0))] [(0, 1, (.const (.int .i32 (.ofNat 1)))), (1, 1, (.const (.int .i32 (.negSucc 1)))), (2, 1, (.const (.int .i32 (.negSucc 2))))] 3, some 205, none⟩, []⟩,
    ⟨⟨.bslice 1 [(.int .i32 (.ofNat 0)), (.int .i32 (.ofNat 0))] [(0, 1, (.const (.int .i32 (.negSucc 0)))), (1, 1, (.const (.int .i32 (.ofNat 2))))] 2, some 206, none⟩, []⟩,
    ⟨⟨.bslice 1 [(.int .i32 (.ofNat 0)), (.int .i32 (.ofNat 0))] [(0, 1, (.const (.int .i32 (.negSucc 0)))), (1, 1, (.const (.int .i32 (.ofNat 3))))] 2, some 207, none⟩, []⟩,
    ⟨⟨.bslice 1 [(.int .i32 (.ofNat 0)), (.int .i32 (.ofNat 0))] [(0, 1, (.const (.int .i32 (.ofNat 1)))), (1, 1, (.const (.int .i32 (.ofNat 4))))] 2, some 208, none⟩, []⟩,
    ⟨⟨.bslice 1 [(.int .i32 (.ofNat 0)), (.int .i32 (.ofNat 0))] [(0, 1, (.const (.int .i32 (.negSucc 0)))), (1, 1, (.const (.int .i32 (.ofNat 4))))] 2, some 209, none⟩, []⟩,
    ⟨⟨.bslice 1 [.nils, .nils, .nils, .nils, .nils] [(0, 1, (.slot 205)), (1, 1, (.slot 206)), (2, 1, (.slot 207)), (3, 1, (.slot 208)), (4, 1, (.slot 209))] 5, some 210, none⟩, []⟩,
    ⟨⟨.mv (.slot 210), some 30, none⟩, []⟩])
  (.seq (.region false [⟨⟨.mv (.slot 30), some 211, none⟩, []⟩,
    ⟨⟨.call (.const (.func 4 [] [])) [(.slot 211)], some 212, none⟩, []⟩,
    ⟨⟨.mv (.slot 30), some 213, none⟩, []⟩,
    ⟨⟨.call (.const (.func 4 [] [])) [(.slot 213)], some 214, none⟩, []⟩,
    ⟨⟨.mv (.slot 212), some 31, none⟩, []⟩,
    ⟨⟨.mv (.slot 214), some 32, none⟩, []⟩])
  (.seq (.region false [⟨⟨.mv (.slot 31), some 216, none⟩, []⟩,
    ⟨⟨.call (.const (.func 5 [] [])) [(.slot 216), (.const (.int .i64 (.ofNat 9))), (.const (.int .i64 (.ofNat 1))), (.const (.bool true))], some 217, none⟩, []⟩,
    ⟨⟨.mv (.slot 217), some 215, none⟩, []⟩,
    ⟨⟨.extract (.slot 215) 0, some 218, none⟩, []⟩,
    ⟨⟨.extract (.slot 215) 1, some 219, none⟩, []⟩,
    ⟨⟨.mv (.slot 218), some 33, none⟩, []⟩,
    ⟨⟨.mv (.slot 219), some 34, none⟩, []⟩])
  (.seq (.region false [⟨⟨.mv (.slot 32), some 221, none⟩, []⟩,
    ⟨⟨.call (.const (.func 5 [] [])) [(.slot 221), (.const (.int .i64 (.ofNat 9))), (.const (.int .i64 (.ofNat 1))), (.const (.bool false))], some 222, none⟩, []⟩,
    ⟨⟨.mv (.slot 222), some 220, none⟩, []⟩,
    ⟨⟨.extract (.slot 220) 0, some 223, none⟩, []⟩,
    ⟨⟨.extract (.slot 220) 1, some 224, none⟩, []⟩,
    ⟨⟨.mv (.slot 223), some 35, none⟩, []⟩,
    ⟨⟨.mv (.slot 224), some 36, none⟩, []⟩])
  (.seq (.region false [⟨⟨.mv (.slot 25), some 225, none⟩, []⟩,
    ⟨⟨.bin .eql 27 .num (.slot 225) (.const (.int .i64 (.ofNat 0))), some 226, none⟩, []⟩,
    ⟨⟨.mv (.slot 226), some 227, none⟩, []⟩,
    ⟨⟨.mv (.slot 27), some 228, some (227, true)⟩, []⟩,
    ⟨⟨.bin .eql 27 .num (.slot 228) (.const (.int .i64 (.ofNat 0))), some 229, some (227, true)⟩, []⟩,
    ⟨⟨.pick (.slot 227) (.slot 229) (.const (.bool false)), some 230, none⟩, []⟩,
    ⟨⟨.mv (.slot 230), some 231, none⟩, []⟩,
    ⟨⟨.mv (.slot 29), some 232, some (231, true)⟩, []⟩,
    ⟨⟨.un .not (.slot 232), some 233, some (231, true)⟩, []⟩,
    ⟨⟨.pick (.slot 231) (.slot 233) (.const (.bool false)), some 234, none⟩, []⟩,
    ⟨⟨.mv (.slot 234), some 235, none⟩, []⟩,
    ⟨⟨.mv (.slot 34), some 236, some (235, true)⟩, []⟩,
    ⟨⟨.bin .eql 27 .num (.slot 236) (.const (.int .i64 (.ofNat 0))), some 237, some (235, true)⟩, []⟩,
    ⟨⟨.pick (.slot 235) (.slot 237) (.const (.bool false)), some 238, none⟩, []⟩,
    ⟨⟨.mv (.slot 238), some 239, none⟩, []⟩,
    ⟨⟨.mv (.slot 36), some 240, some (239, true)⟩, []⟩,
    ⟨⟨.bin .eql 27 .num (.slot 240) (.const (.int .i64 (.ofNat 0))), some 241, some (239, true)⟩, []⟩,
    ⟨⟨.pick (.slot 239) (.slot 241) (.const (.bool false)), some 242, none⟩, []⟩,
    ⟨⟨.mv (.slot 242), some 243, none⟩, []⟩,
    ⟨⟨.mv (.slot 31), some 244, some (243, true)⟩, []⟩,
    ⟨⟨.call (.const (.func 6 [] [])) [(.slot 244)], some 245, some (243, true)⟩, []⟩,
    ⟨⟨.len .slice (.slot 245), some 246, some (243, true)⟩, []⟩,
    ⟨⟨.mv (.slot 32), some 247, some (243, true)⟩, []⟩,
    ⟨⟨.call (.const (.func 6 [] [])) [(.slot 247)], some 248, some (243, true)⟩, []⟩,
    ⟨⟨.len .slice (.slot 248), some 249, some (243, true)⟩, []⟩,
    ⟨⟨.bin .lss 3 .num (.slot 246) (.slot 249), some 250, some (243, true)⟩, []⟩,
    ⟨⟨.pick (.slot 243) (.slot 250) (.const (.bool false)), some 251, none⟩, []⟩,
    ⟨⟨.mv (.slot 251), some 37, none⟩, []⟩])
  (.seq (.region false [⟨⟨.call (.const (.func 5 [] [])) [(.const .nilp), (.const (.int .i64 (.ofNat 1))), (.const (.int .i64 (.ofNat 1))), (.const (.bool false))], some 253, none⟩, []⟩,
    ⟨⟨.mv (.slot 253), some 252, none⟩, []⟩,
    ⟨⟨.extract (.slot 252) 0, some 254, none⟩, []⟩,
    ⟨⟨.extract (.slot 252) 1, some 255, none⟩, []⟩,
    ⟨⟨.mv (.slot 254), some 38, none⟩, []⟩,
    ⟨⟨.mv (.slot 255), some 39, none⟩, []⟩])
  (.seq (.region false [⟨⟨.call (.const (.func 13 [] [])) [], some 257, none⟩, []⟩,
    ⟨⟨.call (.const (.func 5 [] [])) [(.slot 257), (.const (.int .i64 (.negSucc 0))), (.const (.int .i64 (.ofNat 1))), (.const (.bool false))], some 258, none⟩, []⟩,
    ⟨⟨.mv (.slot 258), some 256, none⟩, []⟩,
    ⟨⟨.extract (.slot 256) 0, some 259, none⟩, []⟩,
    ⟨⟨.extract (.slot 256) 1, some 260, none⟩, []⟩,
    ⟨⟨.mv (.slot 259), some 40, none⟩, []⟩,
    ⟨⟨.mv (.slot 260), some 41, none⟩, []⟩])
  (.seq (.region false [⟨⟨.call (.const (.func 13 [] [])) [], some 262, none⟩, []⟩,
    ⟨⟨.call (.const (.func 5 [] [])) [(.slot 262), (.const (.int .i64 (.ofNat 1))), (.const (.int .i64 (.negSucc 0))), (.const (.bool false))], some 263, none⟩, []⟩,
    ⟨⟨.mv (.slot 263), some 261, none⟩, []⟩,
    ⟨⟨.extract (.slot 261) 0, some 264, none⟩, []⟩,
    ⟨⟨.extract (.slot 261) 1, some 265, none⟩, []⟩,
    ⟨⟨.mv (.slot 264), some 42, none⟩, []⟩,
    ⟨⟨.mv (.slot 265), some 43, none⟩, []⟩])
  (.seq (.region false [⟨⟨.call (.const (.func 13 [] [])) [], some 267, none⟩, []⟩,
    ⟨⟨.call (.const (.func 5 [] [])) [(.slot 267), (.const (.int .i64 (.ofNat 9))), (.const (.int .i64 (.ofNat 0))), (.const (.bool false))], some 268, none⟩, []⟩,
    ⟨⟨.mv (.slot 268), some 266, none⟩, []⟩,
    ⟨⟨.extract (.slot 266) 0, some 269, none⟩, []⟩,
    ⟨⟨.extract (.slot 266) 1, some 270, none⟩, []⟩,
    ⟨⟨.mv (.slot 269), some 44, none⟩, []⟩,
    ⟨⟨.mv (.slot 270), some 45, none⟩, []⟩])
  (.seq (.region false [⟨⟨.mv (.slot 4), some 271, none⟩, []⟩,
    ⟨⟨.mv (.slot 271), some 272, none⟩, []⟩,
    ⟨⟨.mv (.slot 8), some 273, some (272, true)⟩, []⟩,
    ⟨⟨.pick (.slot 272) (.slot 273) (.const (.bool false)), some 274, none⟩, []⟩,
    ⟨⟨.mv (.slot 274), some 275, none⟩, []⟩,
    ⟨⟨.mv (.slot 14), some 276, some (275, true)⟩, []⟩,
    ⟨⟨.pick (.slot 275) (.slot 276) (.const (.bool false)), some 277, none⟩, []⟩,
    ⟨⟨.mv (.slot 277), some 278, none⟩, []⟩,
    ⟨⟨.mv (.slot 18), some 279, some (278, true)⟩, []⟩,
    ⟨⟨.pick (.slot 278) (.slot 279) (.const (.bool false)), some 280, none⟩, []⟩,
    ⟨⟨.mv (.slot 280), some 281, none⟩, []⟩,
    ⟨⟨.mv (.slot 22), some 282, some (281, true)⟩, []⟩,
    ⟨⟨.pick (.slot 281) (.slot 282) (.const (.bool false)), some 283, none⟩, []⟩,
    ⟨⟨.mv (.slot 283), some 284, none⟩, []⟩,
    ⟨⟨.mv (.slot 37), some 285, some (284, true)⟩, []⟩,
    ⟨⟨.pick (.slot 284) (.slot 285) (.const (.bool false)), some 286, none⟩, []⟩,
    ⟨⟨.mv (.slot 286), some 287, none⟩, []⟩,
    ⟨⟨.mv (.slot 39), some 288, some (287, true)⟩, []⟩,
    ⟨⟨.bin .eql 27 .num (.slot 288) (.const (.int .i64 (.ofNat 1))), some 289, some (287, true)⟩, []⟩,
    ⟨⟨.pick (.slot 287) (.slot 289) (.const (.bool false)), some 290, none⟩, []⟩,
    ⟨⟨.mv (.slot 290), some 291, none⟩, []⟩,
    ⟨⟨.mv (.slot 41), some 292, some (291, true)⟩, []⟩,
    ⟨⟨.bin .eql 27 .num (.slot 292) (.const (.int .i64 (.ofNat 2))), some 293, some (291, true)⟩, []⟩,
    ⟨⟨.pick (.slot 291) (.slot 293) (.const (.bool false)), some 294, none⟩, []⟩,
    ⟨⟨.mv (.slot 294), some 295, none⟩, []⟩,
    ⟨⟨.mv (.slot 43), some 296, some (295, true)⟩, []⟩,
    ⟨⟨.bin .eql 27 .num (.slot 296) (.const (.int .i64 (.ofNat 2))), some 297, some (295, true)⟩, []⟩,
    ⟨⟨.pick (.slot 295) (.slot 297) (.const (.bool false)), some 298, none⟩, []⟩,
    ⟨⟨.mv (.slot 298), some 299, none⟩, []⟩,
    ⟨⟨.mv (.slot 44), some 300, some (299, true)⟩, []⟩,
    ⟨⟨.bin .eql 3 .num (.slot 300) (.const (.int .i64 (.ofNat 0))), some 301, some (299, true)⟩, []⟩,
    ⟨⟨.pick (.slot 299) (.slot 301) (.const (.bool false)), some 302, none⟩, []⟩,
    ⟨⟨.mv (.slot 302), some 303, none⟩, []⟩,
    ⟨⟨.mv (.slot 45), some 304, some (303, true)⟩, []⟩,
    ⟨⟨.bin .eql 27 .num (.slot 304) (.const (.int .i64 (.ofNat 0))), some 305, some (303, true)⟩, []⟩,
    ⟨⟨.pick (.slot 303) (.slot 305) (.const (.bool false)), some 306, none⟩, []⟩,
    ⟨⟨.mv (.slot 306), some 307, none⟩, []⟩,
    ⟨⟨.call (.const (.func 14 [] [])) [], some 308, some (307, true)⟩, []⟩,
    ⟨⟨.pick (.slot 307) (.slot 308) (.const (.bool false)), some 309, none⟩, []⟩,
    ⟨⟨.mv (.slot 309), some 0, none⟩, []⟩])
  .ret))))))))))))))))))))))))))))))),
  [.tmp 0]⟩
theorem xf3_ok : compFunc Tryz.prog Tryz.f3 = some xf3 := by kernel_rfl
/-- threshing/threshinglaw27.began -/
def xf4 : XFunc := ⟨(.seq (.region false [⟨⟨.mv (.const .nilp), some 2, none⟩, []⟩])
  (.seq (.region false [⟨⟨.mv (.slot 0), some 6, none⟩, []⟩,
    ⟨⟨.build [(.int .i64 (.ofNat 0)), .nils] [(0, 1, (.const (.int .i64 (.ofNat 4)))), (1, 1, (.slot 6))], some 7, none⟩, []⟩,
    ⟨⟨.call (.const (.func 15 [] [])) [(.slot 7)], some 8, none⟩, []⟩,
    ⟨⟨.mv (.slot 8), some 5, none⟩, []⟩,
    ⟨⟨.extract (.slot 5) 0, some 9, none⟩, []⟩,
    ⟨⟨.extract (.slot 5) 1, some 10, none⟩, []⟩,
    ⟨⟨.mv (.slot 9), some 3, none⟩, []⟩,
    ⟨⟨.mv (.slot 10), some 4, none⟩, []⟩])
  (.seq (.region false [⟨⟨.mv (.slot 3), some 11, none⟩, []⟩,
    ⟨⟨.mv (.slot 11), some 2, none⟩, []⟩])
  .ret))),
  [.tmp 2]⟩
theorem xf4_ok : compFunc Tryz.prog Tryz.f4 = some xf4 := by kernel_rfl
/-- threshing/elim.Elim -/
def xf5 : XFunc := ⟨(.seq (.region false [⟨⟨.mv (.const (.int .i64 (.ofNat 0))), some 8, none⟩, []⟩,
    ⟨⟨.mv (.const (.int .i64 (.ofNat 0))), some 9, none⟩, []⟩])
  (.seq (.block 0 (.seq (.region false [⟨⟨.mv (.slot 0), some 17, none⟩, []⟩,
    ⟨⟨.bin .eql 22 .ptr (.slot 17) (.const .nilp), some 18, none⟩, []⟩,
    ⟨⟨.mv (.slot 18), some 16, none⟩, []⟩])
  (.cond (.slot 16)
   (.seq (.region false [⟨⟨.mv (.const (.int .i64 (.ofNat 0))), some 8, none⟩, []⟩,
     ⟨⟨.mv (.const (.int .i64 (.ofNat 1))), some 9, none⟩, []⟩])
   .ret)
   (.seq (.region false [⟨⟨.mv (.slot 1), some 20, none⟩, []⟩,
     ⟨⟨.bin .lss 3 .num (.slot 20) (.const (.int .i64 (.ofNat 0))), some 21, none⟩, []⟩,
     ⟨⟨.mv (.slot 21), some 22, none⟩, []⟩,
     ⟨⟨.mv (.slot 2), some 23, some (22, false)⟩, []⟩,
     ⟨⟨.bin .lss 3 .num (.slot 23) (.const (.int .i64 (.ofNat 0))), some 24, some (22, false)⟩, []⟩,
     ⟨⟨.pick (.slot 22) (.const (.bool true)) (.slot 24), some 25, none⟩, []⟩,
     ⟨⟨.mv (.slot 25), some 19, none⟩, []⟩])
   (.cond (.slot 19)
    (.seq (.region false [⟨⟨.mv (.const (.int .i64 (.ofNat 0))), some 8, none⟩, []⟩,
      ⟨⟨.mv (.const (.int .i64 (.ofNat 2))), some 9, none⟩, []⟩])
    .ret)
    .skip)))))
  (.seq (.region false [⟨⟨.mv (.const (.int .i64 (.ofNat 0))), some 10, none⟩, []⟩])
  (.seq (.seq (.region false [⟨⟨.mv (.const (.int .i32 (.ofNat 1))), some 11, none⟩, []⟩])
  (.block 1 (.loop (.seq (.seq (.region false [⟨⟨.mv (.slot 11), some 26, none⟩, []⟩,
     ⟨⟨.conv .i64 (.slot 26), some 27, none⟩, []⟩,
     ⟨⟨.mv (.slot 0), some 28, none⟩, []⟩,
     ⟨⟨.call (.const (.func 16 [] [])) [(.slot 28)], some 29, none⟩, []⟩,
     ⟨⟨.bin .leq 3 .num (.slot 27) (.slot 29), some 30, none⟩, []⟩,
     ⟨⟨.mv (.slot 30), some 31, none⟩, []⟩,
     ⟨⟨.mv (.slot 10), some 32, some (31, true)⟩, []⟩,
     ⟨⟨.mv (.slot 2), some 33, some (31, true)⟩, []⟩,
     ⟨⟨.bin .lss 3 .num (.slot 32) (.slot 33), some 34, some (31, true)⟩, []⟩,
     ⟨⟨.pick (.slot 31) (.slot 34) (.const (.bool false)), some 35, none⟩, []⟩])
   (.cond (.slot 35)
    .skip
    (.exit 1)))
   (.seq (.block 2 (.seq (.seq (.region false [⟨⟨.mv (.slot 0), some 39, none⟩, []⟩,
     ⟨⟨.call (.const (.func 9 [] [])) [(.slot 39)], some 40, none⟩, []⟩,
     ⟨⟨.mv (.slot 40), some 38, none⟩, []⟩,
     ⟨⟨.extract (.slot 38) 0, some 41, none⟩, []⟩,
     ⟨⟨.extract (.slot 38) 1, some 42, none⟩, []⟩,
     ⟨⟨.mv (.slot 41), some 12, none⟩, []⟩,
     ⟨⟨.mv (.slot 42), some 13, none⟩, []⟩])
   (.seq (.region false [⟨⟨.mv (.slot 13), some 43, none⟩, []⟩])
   (.cond (.slot 43)
    (.exit 1)
    .skip)))
   (.seq (.region false [⟨⟨.mv (.slot 0), some 44, none⟩, []⟩,
     ⟨⟨.mv (.slot 11), some 45, none⟩, []⟩,
     ⟨⟨.mv (.slot 3), some 46, none⟩, []⟩,
     ⟨⟨.call (.const (.func 17 [] [])) [(.slot 44), (.slot 45), (.slot 46)], some 47, none⟩, []⟩,
     ⟨⟨.mv (.slot 47), some 14, none⟩, []⟩])
   (.seq (.seq (.region false [⟨⟨.mv (.slot 14), some 48, none⟩, []⟩,
     ⟨⟨.mv (.slot 1), some 49, none⟩, []⟩,
     ⟨⟨.call (.const (.func 18 [] [])) [(.slot 48), (.slot 49)], some 50, none⟩, []⟩,
     ⟨⟨.un .not (.slot 50), some 51, none⟩, []⟩])
   (.cond (.slot 51)
    (.exit 2)
    .skip))
   (.seq (.seq (.region false [⟨⟨.mv (.slot 14), some 52, none⟩, []⟩,
     ⟨⟨.call (.const (.func 19 [] [])) [(.slot 52)], some 53, none⟩, []⟩,
     ⟨⟨.mv (.slot 53), some 15, none⟩, []⟩])
   (.seq (.region false [⟨⟨.mv (.slot 15), some 54, none⟩, []⟩,
     ⟨⟨.bin .neq 27 .num (.slot 54) (.const (.int .i64 (.ofNat 0))), some 55, none⟩, []⟩])
   (.cond (.slot 55)
    (.seq (.region false [⟨⟨.mv (.slot 10), some 56, none⟩, []⟩,
      ⟨⟨.mv (.slot 15), some 57, none⟩, []⟩,
      ⟨⟨.mv (.slot 56), some 8, none⟩, []⟩,
      ⟨⟨.mv (.slot 57), some 9, none⟩, []⟩])
    .ret)
    .skip)))
   (.region false [⟨⟨.mv (.slot 10), some 58, none⟩, []⟩,
     ⟨⟨.bin .add 3 .num (.slot 58) (.const (.int .i64 (.ofNat 1))), some 59, none⟩, []⟩,
     ⟨⟨.mv (.slot 59), some 10, none⟩, []⟩]))))))
   (.region false [⟨⟨.mv (.slot 11), some 36, none⟩, []⟩,
     ⟨⟨.bin .add 24 .num (.slot 36) (.const (.int .i32 (.ofNat 1))), some 37, none⟩, []⟩,
     ⟨⟨.mv (.slot 37), some 11, none⟩, []⟩]))))))
  (.seq (.region false [⟨⟨.mv (.slot 10), some 60, none⟩, []⟩,
    ⟨⟨.mv (.slot 60), some 8, none⟩, []⟩,
    ⟨⟨.mv (.const (.int .i64 (.ofNat 0))), some 9, none⟩, []⟩])
  .ret))))),
  [.tmp 8, .tmp 9]⟩
theorem xf5_ok : compFunc Tryz.prog Tryz.f5 = some xf5 := by kernel_rfl
/-- (*threshing/base.Base).Entries -/
def xf6 : XFunc := ⟨(.seq (.region false [⟨⟨.mv (.const .nils), some 2, none⟩, []⟩])
  (.seq (.seq (.region false [⟨⟨.mv (.slot 0), some 6, none⟩, []⟩,
    ⟨⟨.bin .eql 22 .ptr (.slot 6) (.const .nilp), some 7, none⟩, []⟩])
  (.cond (.slot 7)
   (.seq (.region false [⟨⟨.mv (.const .nils), some 2, none⟩, []⟩])
   .ret)
   .skip))
  (.seq (.region false [⟨⟨.mv (.const .nils), some 3, none⟩, []⟩])
  (.seq (.seq (.region false [⟨⟨.mv (.slot 0), some 8, none⟩, []⟩,
    ⟨⟨.nilCheck (.slot 8), some 9, none⟩, []⟩,
    ⟨⟨.faddr 1 (.slot 9), some 10, none⟩, []⟩,
    ⟨⟨.load false 1 (.slot 10), some 11, none⟩, []⟩,
    ⟨⟨.call (.const (.func 21 [] [])) [(.slot 11)], some 12, none⟩, []⟩,
    ⟨⟨.call (.const (.func 20 [] [])) [(.slot 12)], some 13, none⟩, []⟩,
    ⟨⟨.len .slice (.slot 13), some 14, none⟩, []⟩,
    ⟨⟨.mv (.const (.int .i64 (.ofNat 0))), some 15, none⟩, []⟩])
  (.block 0 (.loop (.seq (.region false [⟨⟨.bin .lss 3 .num (.slot 15) (.slot 14), some 16, none⟩, []⟩])
   (.seq (.cond (.slot 16)
    .skip
    (.exit 0))
   (.seq (.block 1 (.seq (.region false [⟨⟨.iaddr 1 (.slot 13) (.slot 15), some 17, none⟩, []⟩,
     ⟨⟨.load false 1 (.slot 17), some 18, none⟩, []⟩,
     ⟨⟨.mv (.slot 18), some 5, none⟩, []⟩])
   (.region false [⟨⟨.mv (.slot 3), some 19, none⟩, []⟩,
     ⟨⟨.mv (.slot 0), some 20, none⟩, []⟩,
     ⟨⟨.nilCheck (.slot 20), some 21, none⟩, []⟩,
     ⟨⟨.faddr 1 (.slot 21), some 22, none⟩, []⟩,
     ⟨⟨.load false 1 (.slot 22), some 23, none⟩, []⟩,
     ⟨⟨.mv (.slot 5), some 24, none⟩, []⟩,
     ⟨⟨.lookup .i64 (.agg [(.int .i64 (.ofNat 0)), .nils, (.bool false)]) (.slot 23) (.slot 24) false, some 25, none⟩, []⟩,
     ⟨⟨.call (.const (.func 22 [] [])) [(.slot 25)], some 26, none⟩, []⟩,
     ⟨⟨.bslice 3 [(.int .i64 (.ofNat 0)), .nils, (.bool false)] [(0, 3, (.slot 26))] 1, some 27, none⟩, []⟩,
     ⟨⟨.append 3 40 (.slot 19) (.slot 27), some 28, none⟩, []⟩,
     ⟨⟨.mv (.slot 28), some 3, none⟩, []⟩])))
   (.region false [⟨⟨.bin .add 3 .num (.slot 15) (.const (.int .i64 (.ofNat 1))), some 29, none⟩, []⟩,
     ⟨⟨.mv (.slot 29), some 15, none⟩, []⟩])))))))
  (.seq (.region false [⟨⟨.mv (.slot 3), some 30, none⟩, []⟩,
    ⟨⟨.mv (.slot 30), some 2, none⟩, []⟩])
  .ret))))),
  [.tmp 2]⟩
theorem xf6_ok : compFunc Tryz.prog Tryz.f6 = some xf6 := by kernel_rfl
/-- (*threshing/base.Base).Stack -/
def xf7 : XFunc := ⟨(.seq (.region false [⟨⟨.mv (.const .nils), some 2, none⟩, []⟩])
  (.seq (.seq (.region false [⟨⟨.mv (.slot 0), some 5, none⟩, []⟩,
    ⟨⟨.bin .eql 22 .ptr (.slot 5) (.const .nilp), some 6, none⟩, []⟩])
  (.cond (.slot 6)
   (.seq (.region false [⟨⟨.mv (.const .nils), some 2, none⟩, []⟩])
   .ret)
   .skip))
  (.seq (.region false [⟨⟨.mv (.slot 0), some 7, none⟩, []⟩,
    ⟨⟨.nilCheck (.slot 7), some 8, none⟩, []⟩,
    ⟨⟨.faddr 6 (.slot 8), some 9, none⟩, []⟩,
    ⟨⟨.load false 1 (.slot 9), some 10, none⟩, []⟩,
    ⟨⟨.call (.const (.func 23 [] [])) [(.slot 10)], some 11, none⟩, []⟩,
    ⟨⟨.mv (.slot 11), some 3, none⟩, []⟩])
  (.seq (.seq (.region false [⟨⟨.mv (.slot 3), some 12, none⟩, []⟩,
    ⟨⟨.len .slice (.slot 12), some 13, none⟩, []⟩,
    ⟨⟨.mv (.const (.int .i64 (.ofNat 0))), some 14, none⟩, []⟩])
  (.block 0 (.loop (.seq (.region false [⟨⟨.bin .lss 3 .num (.slot 14) (.slot 13), some 15, none⟩, []⟩])
   (.seq (.cond (.slot 15)
    .skip
    (.exit 0))
   (.seq (.block 1 (.seq (.region false [⟨⟨.mv (.slot 14), some 16, none⟩, []⟩,
     ⟨⟨.mv (.slot 16), some 4, none⟩, []⟩])
   (.region true [⟨⟨.mv (.slot 3), some 17, none⟩, []⟩,
     ⟨⟨.mv (.slot 4), some 18, none⟩, []⟩,
     ⟨⟨.mv (.slot 3), some 19, none⟩, []⟩,
     ⟨⟨.mv (.slot 4), some 20, none⟩, []⟩,
     ⟨⟨.mv (.slot 3), some 21, none⟩, []⟩,
     ⟨⟨.mv (.slot 4), some 22, none⟩, []⟩,
     ⟨⟨.iaddr 2 (.slot 21) (.slot 22), some 23, none⟩, []⟩,
     ⟨⟨.faddr 0 (.slot 23), some 24, none⟩, []⟩,
     ⟨⟨.load false 1 (.slot 24), some 25, none⟩, []⟩,
     ⟨⟨.mv (.slot 3), some 27, none⟩, []⟩,
     ⟨⟨.mv (.slot 4), some 28, none⟩, []⟩,
     ⟨⟨.iaddr 2 (.slot 27) (.slot 28), some 29, none⟩, []⟩,
     ⟨⟨.faddr 1 (.slot 29), some 30, none⟩, []⟩,
     ⟨⟨.load false 1 (.slot 30), some 31, none⟩, []⟩,
     ⟨⟨.call (.const (.func 24 [] [])) [(.slot 25)], some 26, none⟩, [⟨.load false 1 (.slot 30), some 31, none⟩]⟩,
     ⟨⟨.call (.const (.func 24 [] [])) [(.slot 31)], some 32, none⟩, []⟩,
     ⟨⟨.iaddr 2 (.slot 17) (.slot 18), some 33, none⟩, []⟩,
     ⟨⟨.faddr 0 (.slot 33), some 34, none⟩, []⟩,
     ⟨⟨.store 1 (.slot 34) (.slot 26), none, none⟩, []⟩,
     ⟨⟨.iaddr 2 (.slot 19) (.slot 20), some 35, none⟩, []⟩,
     ⟨⟨.faddr 1 (.slot 35), some 36, none⟩, []⟩,
     ⟨⟨.store 1 (.slot 36) (.slot 32), none, none⟩, []⟩])))
   (.region false [⟨⟨.bin .add 3 .num (.slot 14) (.const (.int .i64 (.ofNat 1))), some 37, none⟩, []⟩,
     ⟨⟨.mv (.slot 37), some 14, none⟩, []⟩])))))))
  (.seq (.region false [⟨⟨.mv (.slot 3), some 38, none⟩, []⟩,
    ⟨⟨.mv (.slot 38), some 2, none⟩, []⟩])
  .ret))))),
  [.tmp 2]⟩
theorem xf7_ok : compFunc Tryz.prog Tryz.f7 = some xf7 := by kernel_rfl
/-- (*threshing/base.Base).Last -/
def xf8 : XFunc := ⟨(.seq (.region false [⟨⟨.mv (.const (.int .i64 (.ofNat 0))), some 2, none⟩, []⟩])
  (.seq (.seq (.region false [⟨⟨.mv (.slot 0), some 3, none⟩, []⟩,
    ⟨⟨.bin .eql 22 .ptr (.slot 3) (.const .nilp), some 4, none⟩, []⟩])
  (.cond (.slot 4)
   (.seq (.region false [⟨⟨.mv (.const (.int .i64 (.ofNat 0))), some 2, none⟩, []⟩])
   .ret)
   .skip))
  (.seq (.region false [⟨⟨.mv (.slot 0), some 5, none⟩, []⟩,
    ⟨⟨.nilCheck (.slot 5), some 6, none⟩, []⟩,
    ⟨⟨.faddr 4 (.slot 6), some 7, none⟩, []⟩,
    ⟨⟨.load false 1 (.slot 7), some 8, none⟩, []⟩,
    ⟨⟨.mv (.slot 8), some 2, none⟩, []⟩])
  .ret))),
  [.tmp 2]⟩
theorem xf8_ok : compFunc Tryz.prog Tryz.f8 = some xf8 := by kernel_rfl
/-- (*threshing/base.Base).Empty -/
def xf9 : XFunc := ⟨(.seq (.region false [⟨⟨.mv (.const (.int .i64 (.ofNat 0))), some 2, none⟩, []⟩,
    ⟨⟨.mv (.const (.bool false)), some 3, none⟩, []⟩])
  (.seq (.seq (.region false [⟨⟨.mv (.slot 0), some 4, none⟩, []⟩,
    ⟨⟨.bin .eql 22 .ptr (.slot 4) (.const .nilp), some 5, none⟩, []⟩,
    ⟨⟨.mv (.slot 5), some 6, none⟩, []⟩,
    ⟨⟨.mv (.slot 0), some 7, some (6, false)⟩, []⟩,
    ⟨⟨.nilCheck (.slot 7), some 8, some (6, false)⟩, []⟩,
    ⟨⟨.faddr 3 (.slot 8), some 9, some (6, false)⟩, []⟩,
    ⟨⟨.load false 1 (.slot 9), some 10, some (6, false)⟩, []⟩,
    ⟨⟨.len .map (.slot 10), some 11, some (6, false)⟩, []⟩,
    ⟨⟨.bin .eql 3 .num (.slot 11) (.const (.int .i64 (.ofNat 0))), some 12, some (6, false)⟩, []⟩,
    ⟨⟨.pick (.slot 6) (.const (.bool true)) (.slot 12), some 13, none⟩, []⟩])
  (.cond (.slot 13)
   (.seq (.region false [⟨⟨.mv (.const (.int .i64 (.ofNat 0))), some 2, none⟩, []⟩,
     ⟨⟨.mv (.const (.bool false)), some 3, none⟩, []⟩])
   .ret)
   .skip))
  (.seq (.region false [⟨⟨.mv (.slot 0), some 14, none⟩, []⟩,
    ⟨⟨.nilCheck (.slot 14), some 15, none⟩, []⟩,
    ⟨⟨.faddr 3 (.slot 15), some 16, none⟩, []⟩,
    ⟨⟨.load false 1 (.slot 16), some 17, none⟩, []⟩,
    ⟨⟨.call (.const (.func 27 [] [])) [(.slot 17)], some 18, none⟩, []⟩,
    ⟨⟨.call (.const (.func 26 [] [])) [(.slot 18)], some 19, none⟩, []⟩,
    ⟨⟨.call (.const (.func 25 [] [])) [(.slot 19)], some 20, none⟩, []⟩,
    ⟨⟨.mv (.slot 20), some 2, none⟩, []⟩,
    ⟨⟨.mv (.const (.bool true)), some 3, none⟩, []⟩])
  .ret))),
  [.tmp 2, .tmp 3]⟩
theorem xf9_ok : compFunc Tryz.prog Tryz.f9 = some xf9 := by kernel_rfl
/-- (*threshing/base.Base).Occurs -/
def xf10 : XFunc := ⟨(.seq (.region false [⟨⟨.mv (.const .nils), some 4, none⟩, []⟩])
  (.seq (.seq (.region false [⟨⟨.mv (.slot 0), some 5, none⟩, []⟩,
    ⟨⟨.bin .eql 22 .ptr (.slot 5) (.const .nilp), some 6, none⟩, []⟩])
  (.cond (.slot 6)
   (.seq (.region false [⟨⟨.mv (.const .nils), some 4, none⟩, []⟩])
   .ret)
   .skip))
  (.seq (.region false [⟨⟨.mv (.slot 0), some 7, none⟩, []⟩,
    ⟨⟨.nilCheck (.slot 7), some 8, none⟩, []⟩,
    ⟨⟨.faddr 2 (.slot 8), some 9, none⟩, []⟩,
    ⟨⟨.load false 1 (.slot 9), some 10, none⟩, []⟩,
    ⟨⟨.mv (.slot 1), some 11, none⟩, []⟩,
    ⟨⟨.lookup .i32 .nilm (.slot 10) (.slot 11) false, some 12, none⟩, []⟩,
    ⟨⟨.call (.const (.func 27 [] [])) [(.slot 12)], some 13, none⟩, []⟩,
    ⟨⟨.call (.const (.func 20 [] [])) [(.slot 13)], some 14, none⟩, []⟩,
    ⟨⟨.mv (.slot 14), some 4, none⟩, []⟩])
  .ret))),
  [.tmp 4]⟩
theorem xf10_ok : compFunc Tryz.prog Tryz.f10 = some xf10 := by kernel_rfl
/-- (*threshing/base.Base).Add -/
def xf11 : XFunc := ⟨(.seq (.region false [⟨⟨.mv (.const (.int .i64 (.ofNat 0))), some 8, none⟩, []⟩,
    ⟨⟨.mv (.const (.int .i64 (.ofNat 0))), some 9, none⟩, []⟩])
  (.seq (.block 0 (.seq (.region false [⟨⟨.mv (.slot 0), some 12, none⟩, []⟩,
    ⟨⟨.bin .eql 22 .ptr (.slot 12) (.const .nilp), some 13, none⟩, []⟩,
    ⟨⟨.mv (.slot 13), some 11, none⟩, []⟩])
  (.cond (.slot 11)
   (.seq (.region false [⟨⟨.mv (.const (.int .i64 (.ofNat 0))), some 8, none⟩, []⟩,
     ⟨⟨.mv (.const (.int .i64 (.ofNat 1))), some 9, none⟩, []⟩])
   .ret)
   (.seq (.region false [⟨⟨.mv (.slot 0), some 15, none⟩, []⟩,
     ⟨⟨.call (.const (.func 28 [] [])) [(.slot 15)], some 16, none⟩, []⟩,
     ⟨⟨.mv (.slot 16), some 14, none⟩, []⟩])
   (.cond (.slot 14)
    (.seq (.region false [⟨⟨.mv (.const (.int .i64 (.ofNat 0))), some 8, none⟩, []⟩,
      ⟨⟨.mv (.const (.int .i64 (.ofNat 3))), some 9, none⟩, []⟩])
    .ret)
    (.seq (.region false [⟨⟨.mv (.slot 0), some 18, none⟩, []⟩,
      ⟨⟨.mv (.slot 1), some 19, none⟩, []⟩,
      ⟨⟨.call (.const (.func 29 [] [])) [(.slot 18), (.slot 19)], some 20, none⟩, []⟩,
      ⟨⟨.un .not (.slot 20), some 21, none⟩, []⟩,
      ⟨⟨.mv (.slot 21), some 17, none⟩, []⟩])
    (.cond (.slot 17)
     (.seq (.region false [⟨⟨.mv (.const (.int .i64 (.ofNat 0))), some 8, none⟩, []⟩,
       ⟨⟨.mv (.const (.int .i64 (.ofNat 4))), some 9, none⟩, []⟩])
     .ret)
     .skip)))))))
  (.seq (.seq (.region false [⟨⟨.mv (.slot 0), some 22, none⟩, []⟩,
    ⟨⟨.mv (.slot 1), some 23, none⟩, []⟩,
    ⟨⟨.mv (.slot 2), some 24, none⟩, []⟩,
    ⟨⟨.call (.const (.func 30 [] [])) [(.slot 22), (.slot 23), (.slot 24)], some 25, none⟩, []⟩,
    ⟨⟨.mv (.slot 25), some 10, none⟩, []⟩])
  (.seq (.region false [⟨⟨.mv (.slot 10), some 26, none⟩, []⟩,
    ⟨⟨.bin .neq 27 .num (.slot 26) (.const (.int .i64 (.ofNat 0))), some 27, none⟩, []⟩])
  (.cond (.slot 27)
   (.seq (.region false [⟨⟨.mv (.slot 10), some 28, none⟩, []⟩,
     ⟨⟨.mv (.const (.int .i64 (.ofNat 0))), some 8, none⟩, []⟩,
     ⟨⟨.mv (.slot 28), some 9, none⟩, []⟩])
   .ret)
   .skip)))
  (.seq (.region false [⟨⟨.mv (.slot 0), some 29, none⟩, []⟩,
    ⟨⟨.mv (.slot 1), some 30, none⟩, []⟩,
    ⟨⟨.mv (.slot 3), some 31, none⟩, []⟩,
    ⟨⟨.call (.const (.func 31 [] [])) [(.slot 29), (.slot 30), (.slot 31)], some 32, none⟩, []⟩])
  (.seq (.region true [⟨⟨.mv (.slot 0), some 33, none⟩, []⟩,
    ⟨⟨.mv (.slot 0), some 34, none⟩, []⟩,
    ⟨⟨.nilCheck (.slot 34), some 35, none⟩, []⟩,
    ⟨⟨.faddr 5 (.slot 35), some 36, none⟩, []⟩,
    ⟨⟨.load false 1 (.slot 36), some 37, none⟩, []⟩,
    ⟨⟨.mv (.slot 0), some 38, none⟩, []⟩,
    ⟨⟨.nilCheck (.slot 38), some 39, none⟩, []⟩,
    ⟨⟨.faddr 4 (.slot 39), some 40, none⟩, []⟩,
    ⟨⟨.load false 1 (.slot 40), some 41, none⟩, []⟩,
    ⟨⟨.mv (.slot 1), some 42, none⟩, []⟩,
    ⟨⟨.mv (.slot 2), some 44, none⟩, []⟩,
    ⟨⟨.call (.const (.func 24 [] [])) [(.slot 42)], some 43, none⟩, [⟨.load false 1 (.slot 36), some 37, none⟩, ⟨.load false 1 (.slot 40), some 41, none⟩]⟩,
    ⟨⟨.call (.const (.func 32 [] [])) [(.slot 44)], some 45, none⟩, [⟨.load false 1 (.slot 36), some 37, none⟩, ⟨.load false 1 (.slot 40), some 41, none⟩]⟩,
    ⟨⟨.build [(.int .u8 (.ofNat 0)), (.int .i64 (.ofNat 0)), .nils, .nils] [(0, 1, (.const (.int .u8 (.ofNat 1)))), (1, 1, (.slot 41)), (2, 1, (.slot 43)), (3, 1, (.slot 45))], some 46, none⟩, []⟩,
    ⟨⟨.bslice 4 [(.int .u8 (.ofNat 0)), (.int .i64 (.ofNat 0)), .nils, .nils] [(0, 4, (.slot 46))] 1, some 47, none⟩, [⟨.load false 1 (.slot 36), some 37, none⟩]⟩,
    ⟨⟨.append 4 64 (.slot 37) (.slot 47), some 48, none⟩, []⟩,
    ⟨⟨.nilCheck (.slot 33), some 49, none⟩, []⟩,
    ⟨⟨.faddr 5 (.slot 49), some 50, none⟩, []⟩,
    ⟨⟨.store 1 (.slot 50) (.slot 48), none, none⟩, []⟩])
  (.seq (.region true [⟨⟨.mv (.slot 0), some 51, none⟩, []⟩,
    ⟨⟨.mv (.slot 0), some 52, none⟩, []⟩,
    ⟨⟨.nilCheck (.slot 52), some 53, none⟩, []⟩,
    ⟨⟨.faddr 4 (.slot 53), some 54, none⟩, []⟩,
    ⟨⟨.load false 1 (.slot 54), some 55, none⟩, []⟩,
    ⟨⟨.mv (.slot 3), some 56, none⟩, []⟩,
    ⟨⟨.mv (.slot 1), some 57, none⟩, []⟩,
    ⟨⟨.mv (.slot 2), some 59, none⟩, []⟩,
    ⟨⟨.call (.const (.func 24 [] [])) [(.slot 57)], some 58, none⟩, [⟨.load false 1 (.slot 54), some 55, none⟩]⟩,
    ⟨⟨.call (.const (.func 32 [] [])) [(.slot 59)], some 60, none⟩, [⟨.load false 1 (.slot 54), some 55, none⟩]⟩,
    ⟨⟨.build [(.int .u8 (.ofNat 0)), (.int .i64 (.ofNat 0)), (.int .i64 (.ofNat 0)), (.bool false), .nils, .nils] [(0, 1, (.const (.int .u8 (.ofNat 1)))), (1, 1, (.slot 55)), (3, 1, (.slot 56)), (4, 1, (.slot 58)), (5, 1, (.slot 60))], some 61, none⟩, []⟩,
    ⟨⟨.call (.const (.func 33 [] [])) [(.slot 51), (.slot 61)], some 62, none⟩, []⟩])
  (.seq (.region false [⟨⟨.mv (.slot 0), some 63, none⟩, []⟩,
    ⟨⟨.nilCheck (.slot 63), some 64, none⟩, []⟩,
    ⟨⟨.faddr 4 (.slot 64), some 65, none⟩, []⟩,
    ⟨⟨.load false 1 (.slot 65), some 66, none⟩, []⟩,
    ⟨⟨.mv (.slot 66), some 8, none⟩, []⟩,
    ⟨⟨.mv (.const (.int .i64 (.ofNat 0))), some 9, none⟩, []⟩])
  .ret))))))),
  [.tmp 8, .tmp 9]⟩
theorem xf11_ok : compFunc Tryz.prog Tryz.f11 = some xf11 := by kernel_rfl
/-- (*threshing/base.Base).Get -/
def xf12 : XFunc := ⟨(.seq (.region false [⟨⟨.alloc [(.int .i64 (.ofNat 0)), .nils, (.bool false)], some 4, none⟩, []⟩,
    ⟨⟨.mv (.const (.bool false)), some 5, none⟩, []⟩])
  (.seq (.seq (.region false [⟨⟨.mv (.slot 0), some 8, none⟩, []⟩,
    ⟨⟨.bin .eql 22 .ptr (.slot 8) (.const .nilp), some 9, none⟩, []⟩])
  (.cond (.slot 9)
   (.seq (.region false [⟨⟨.build [(.int .i64 (.ofNat 0)), .nils, (.bool false)] [], some 10, none⟩, []⟩,
     ⟨⟨.store 3 (.slot 4) (.slot 10), none, none⟩, []⟩,
     ⟨⟨.mv (.const (.bool false)), some 5, none⟩, []⟩])
   .ret)
   .skip))
  (.seq (.region false [⟨⟨.mv (.slot 0), some 12, none⟩, []⟩,
    ⟨⟨.nilCheck (.slot 12), some 13, none⟩, []⟩,
    ⟨⟨.faddr 1 (.slot 13), some 14, none⟩, []⟩,
    ⟨⟨.load false 1 (.slot 14), some 15, none⟩, []⟩,
    ⟨⟨.mv (.slot 1), some 16, none⟩, []⟩,
    ⟨⟨.lookup .i64 (.agg [(.int .i64 (.ofNat 0)), .nils, (.bool false)]) (.slot 15) (.slot 16) true, some 17, none⟩, []⟩,
    ⟨⟨.mv (.slot 17), some 11, none⟩, []⟩,
    ⟨⟨.extract (.slot 11) 0, some 18, none⟩, []⟩,
    ⟨⟨.extract (.slot 11) 1, some 19, none⟩, []⟩,
    ⟨⟨.alloc [(.int .i64 (.ofNat 0)), .nils, (.bool false)], some 6, none⟩, []⟩,
    ⟨⟨.store 3 (.slot 6) (.slot 18), none, none⟩, []⟩,
    ⟨⟨.mv (.slot 19), some 7, none⟩, []⟩])
  (.seq (.region false [⟨⟨.load true 3 (.slot 6), some 20, none⟩, []⟩,
    ⟨⟨.call (.const (.func 22 [] [])) [(.slot 20)], some 21, none⟩, []⟩,
    ⟨⟨.mv (.slot 7), some 22, none⟩, []⟩,
    ⟨⟨.store 3 (.slot 4) (.slot 21), none, none⟩, []⟩,
    ⟨⟨.mv (.slot 22), some 5, none⟩, []⟩])
  .ret)))),
  [.cell 4 true 3, .tmp 5]⟩
theorem xf12_ok : compFunc Tryz.prog Tryz.f12 = some xf12 := by kernel_rfl
/-- threshing/threshinglaw27.single -/
def xf13 : XFunc := ⟨(.seq (.region false [⟨⟨.mv (.const .nilp), some 0, none⟩, []⟩])
  (.seq (.region false [⟨⟨.bslice 1 [(.int .i32 (.ofNat 0)), (.int .i32 (.ofNat 0))] [(0, 1, (.const (.int .i32 (.ofNat 1)))), (1, 1, (.const (.int .i32 (.ofNat 2))))] 2, some 1, none⟩, []⟩,
    ⟨⟨.bslice 1 [.nils] [(0, 1, (.slot 1))] 1, some 2, none⟩, []⟩,
    ⟨⟨.call (.const (.func 4 [] [])) [(.slot 2)], some 3, none⟩, []⟩,
    ⟨⟨.mv (.slot 3), some 0, none⟩, []⟩])
  .ret)),
  [.tmp 0]⟩
theorem xf13_ok : compFunc Tryz.prog Tryz.f13 = some xf13 := by kernel_rfl
/-- threshing/threshinglaw27.works -/
def xf14 : XFunc := ⟨(.seq (.region false [⟨⟨.mv (.const (.bool false)), some 0, none⟩, []⟩])
  (.seq (.region false [⟨⟨.bslice 1 [(.int .i32 (.ofNat 0)), (.int .i32 (.ofNat 0))] [(0, 1, (.const (.int .i32 (.ofNat 1)))), (1, 1, (.const (.int .i32 (.ofNat 2))))] 2, some 6, none⟩, []⟩,
    ⟨⟨.bslice 1 [(.int .i32 (.ofNat 0)), (.int .i32 (.ofNat 0))] [(0, 1, (.const (.int .i32 (.negSucc 0)))), (1, 1, (.const (.int .i32 (.ofNat 3))))] 2, some 7, none⟩, []⟩,
    ⟨⟨.bslice 1 [.nils, .nils] [(0, 1, (.slot 6)), (1, 1, (.slot 7))] 2, some 8, none⟩, []⟩,
    ⟨⟨.call (.const (.func 4 [] [])) [(.slot 8)], some 9, none⟩, []⟩,
    ⟨⟨.mv (.slot 9), some 1, none⟩, []⟩])
  (.seq (.region false [⟨⟨.mv (.slot 1), some 11, none⟩, []⟩,
    ⟨⟨.call (.const (.func 5 [] [])) [(.slot 11), (.const (.int .i64 (.ofNat 10))), (.const (.int .i64 (.ofNat 1))), (.const (.bool false))], some 12, none⟩, []⟩,
    ⟨⟨.mv (.slot 12), some 10, none⟩, []⟩,
    ⟨⟨.extract (.slot 10) 0, some 13, none⟩, []⟩,
    ⟨⟨.extract (.slot 10) 1, some 14, none⟩, []⟩,
    ⟨⟨.mv (.slot 13), some 2, none⟩, []⟩,
    ⟨⟨.mv (.slot 14), some 3, none⟩, []⟩])
  (.seq (.region false [⟨⟨.mv (.slot 1), some 16, none⟩, []⟩,
    ⟨⟨.call (.const (.func 12 [] [])) [(.slot 16), (.const (.int .i64 (.ofNat 3)))], some 17, none⟩, []⟩,
    ⟨⟨.mv (.slot 17), some 15, none⟩, []⟩,
    ⟨⟨.extract (.slot 15) 0, some 18, none⟩, []⟩,
    ⟨⟨.extract (.slot 15) 1, some 19, none⟩, []⟩,
    ⟨⟨.alloc [(.int .i64 (.ofNat 0)), .nils, (.bool false)], some 4, none⟩, []⟩,
    ⟨⟨.store 3 (.slot 4) (.slot 18), none, none⟩, []⟩,
    ⟨⟨.mv (.slot 19), some 5, none⟩, []⟩])
  (.seq (.region false [⟨⟨.mv (.slot 2), some 20, none⟩, []⟩,
    ⟨⟨.bin .eql 3 .num (.slot 20) (.const (.int .i64 (.ofNat 1))), some 21, none⟩, []⟩,
    ⟨⟨.mv (.slot 21), some 22, none⟩, []⟩,
    ⟨⟨.mv (.slot 3), some 23, some (22, true)⟩, []⟩,
    ⟨⟨.bin .eql 27 .num (.slot 23) (.const (.int .i64 (.ofNat 0))), some 24, some (22, true)⟩, []⟩,
    ⟨⟨.pick (.slot 22) (.slot 24) (.const (.bool false)), some 25, none⟩, []⟩,
    ⟨⟨.mv (.slot 25), some 26, none⟩, []⟩,
    ⟨⟨.mv (.slot 5), some 27, some (26, true)⟩, []⟩,
    ⟨⟨.pick (.slot 26) (.slot 27) (.const (.bool false)), some 28, none⟩, []⟩,
    ⟨⟨.mv (.slot 28), some 29, none⟩, []⟩,
    ⟨⟨.faddr 1 (.slot 4), some 30, some (29, true)⟩, []⟩,
    ⟨⟨.load false 1 (.slot 30), some 31, some (29, true)⟩, []⟩,
    ⟨⟨.bslice 1 [(.int .i32 (.ofNat 0)), (.int .i32 (.ofNat 0))] [(0, 1, (.const (.int .i32 (.ofNat 2)))), (1, 1, (.const (.int .i32 (.ofNat 3))))] 2, some 32, some (29, true)⟩, []⟩,
    ⟨⟨.call (.const (.func 34 [] [])) [(.slot 31), (.slot 32)], some 33, some (29, true)⟩, []⟩,
    ⟨⟨.pick (.slot 29) (.slot 33) (.const (.bool false)), some 34, none⟩, []⟩,
    ⟨⟨.mv (.slot 34), some 35, none⟩, []⟩,
    ⟨⟨.mv (.slot 1), some 36, some (35, true)⟩, []⟩,
    ⟨⟨.call (.const (.func 6 [] [])) [(.slot 36)], some 37, some (35, true)⟩, []⟩,
    ⟨⟨.len .slice (.slot 37), some 38, some (35, true)⟩, []⟩,
    ⟨⟨.bin .eql 3 .num (.slot 38) (.const (.int .i64 (.ofNat 1))), some 39, some (35, true)⟩, []⟩,
    ⟨⟨.pick (.slot 35) (.slot 39) (.const (.bool false)), some 40, none⟩, []⟩,
    ⟨⟨.mv (.slot 40), some 41, none⟩, []⟩,
    ⟨⟨.mv (.slot 1), some 42, some (41, true)⟩, []⟩,
    ⟨⟨.call (.const (.func 7 [] [])) [(.slot 42)], some 43, some (41, true)⟩, []⟩,
    ⟨⟨.len .slice (.slot 43), some 44, some (41, true)⟩, []⟩,
    ⟨⟨.bin .eql 3 .num (.slot 44) (.const (.int .i64 (.ofNat 2))), some 45, some (41, true)⟩, []⟩,
    ⟨⟨.pick (.slot 41) (.slot 45) (.const (.bool false)), some 46, none⟩, []⟩,
    ⟨⟨.mv (.slot 46), some 0, none⟩, []⟩])
  .ret))))),
  [.tmp 0]⟩
theorem xf14_ok : compFunc Tryz.prog Tryz.f14 = some xf14 := by kernel_rfl
/-- threshing/base.New -/
def xf15 : XFunc := ⟨(.seq (.region false [⟨⟨.box (.slot 0), some 1, none⟩, []⟩,
    ⟨⟨.mv (.const .nilp), some 2, none⟩, []⟩,
    ⟨⟨.mv (.const (.int .i64 (.ofNat 0))), some 3, none⟩, []⟩])
  (.seq (.seq (.region false [⟨⟨.load true 2 (.slot 1), some 8, none⟩, []⟩,
    ⟨⟨.call (.const (.func 35 [] [])) [(.slot 8)], some 9, none⟩, []⟩,
    ⟨⟨.mv (.slot 9), some 4, none⟩, []⟩])
  (.seq (.region false [⟨⟨.mv (.slot 4), some 10, none⟩, []⟩,
    ⟨⟨.bin .neq 27 .num (.slot 10) (.const (.int .i64 (.ofNat 0))), some 11, none⟩, []⟩])
  (.cond (.slot 11)
   (.seq (.region false [⟨⟨.mv (.slot 4), some 12, none⟩, []⟩,
     ⟨⟨.mv (.const .nilp), some 2, none⟩, []⟩,
     ⟨⟨.mv (.slot 12), some 3, none⟩, []⟩])
   .ret)
   .skip)))
  (.seq (.region false [⟨⟨.faddr 0 (.slot 1), some 13, none⟩, []⟩,
    ⟨⟨.load false 1 (.slot 13), some 14, none⟩, []⟩,
    ⟨⟨.mkmap .i64, some 15, none⟩, []⟩,
    ⟨⟨.mkmap .i32, some 16, none⟩, []⟩,
    ⟨⟨.mkmap .i64, some 17, none⟩, []⟩,
    ⟨⟨.build [(.int .i64 (.ofNat 0)), .nilm, .nilm, .nilm, (.int .i64 (.ofNat 0)), .nils, .nils, .nils] [(0, 1, (.slot 14)), (1, 1, (.slot 15)), (2, 1, (.slot 16)), (3, 1, (.slot 17))], some 18, none⟩, []⟩,
    ⟨⟨.box (.slot 18), some 19, none⟩, []⟩,
    ⟨⟨.mv (.slot 19), some 5, none⟩, []⟩])
  (.seq (.seq (.region false [⟨⟨.faddr 1 (.slot 1), some 20, none⟩, []⟩,
    ⟨⟨.load false 1 (.slot 20), some 21, none⟩, []⟩,
    ⟨⟨.len .slice (.slot 21), some 22, none⟩, []⟩,
    ⟨⟨.mv (.const (.int .i64 (.ofNat 0))), some 23, none⟩, []⟩])
  (.block 0 (.loop (.seq (.region false [⟨⟨.bin .lss 3 .num (.slot 23) (.slot 22), some 24, none⟩, []⟩])
   (.seq (.cond (.slot 24)
    .skip
    (.exit 0))
   (.seq (.block 1 (.seq (.region false [⟨⟨.iaddr 1 (.slot 21) (.slot 23), some 25, none⟩, []⟩,
     ⟨⟨.load false 1 (.slot 25), some 26, none⟩, []⟩,
     ⟨⟨.mv (.slot 26), some 7, none⟩, []⟩])
   (.region false [⟨⟨.mv (.slot 5), some 27, none⟩, []⟩,
     ⟨⟨.mv (.slot 7), some 28, none⟩, []⟩,
     ⟨⟨.call (.const (.func 31 [] [])) [(.slot 27), (.slot 28), (.const (.bool false))], some 29, none⟩, []⟩])))
   (.region false [⟨⟨.bin .add 3 .num (.slot 23) (.const (.int .i64 (.ofNat 1))), some 30, none⟩, []⟩,
     ⟨⟨.mv (.slot 30), some 23, none⟩, []⟩])))))))
  (.seq (.region false [⟨⟨.mv (.slot 5), some 31, none⟩, []⟩,
    ⟨⟨.mv (.slot 31), some 2, none⟩, []⟩,
    ⟨⟨.mv (.const (.int .i64 (.ofNat 0))), some 3, none⟩, []⟩])
  .ret))))),
  [.tmp 2, .tmp 3]⟩
theorem xf15_ok : compFunc Tryz.prog Tryz.f15 = some xf15 := by kernel_rfl
/-- (*threshing/base.Base).Vars -/
def xf16 : XFunc := ⟨(.seq (.region false [⟨⟨.mv (.const (.int .i64 (.ofNat 0))), some 2, none⟩, []⟩])
  (.seq (.seq (.region false [⟨⟨.mv (.slot 0), some 3, none⟩, []⟩,
    ⟨⟨.bin .eql 22 .ptr (.slot 3) (.const .nilp), some 4, none⟩, []⟩])
  (.cond (.slot 4)
   (.seq (.region false [⟨⟨.mv (.const (.int .i64 (.ofNat 0))), some 2, none⟩, []⟩])
   .ret)
   .skip))
  (.seq (.region false [⟨⟨.mv (.slot 0), some 5, none⟩, []⟩,
    ⟨⟨.nilCheck (.slot 5), some 6, none⟩, []⟩,
    ⟨⟨.faddr 0 (.slot 6), some 7, none⟩, []⟩,
    ⟨⟨.load false 1 (.slot 7), some 8, none⟩, []⟩,
    ⟨⟨.mv (.slot 8), some 2, none⟩, []⟩])
  .ret))),
  [.tmp 2]⟩
theorem xf16_ok : compFunc Tryz.prog Tryz.f16 = some xf16 := by kernel_rfl
/-- threshing/elim.of -/
def xf17 : XFunc := ⟨(.seq (.region false [⟨⟨.box (.slot 0), some 3, none⟩, []⟩,
    ⟨⟨.mv (.const .nilp), some 6, none⟩, []⟩])
  (.seq (.region false [⟨⟨.mkfunc 36 [] [(.slot 3)], some 10, none⟩, []⟩,
    ⟨⟨.mv (.slot 10), some 7, none⟩, []⟩])
  (.seq (.region true [⟨⟨.load false 1 (.slot 3), some 11, none⟩, []⟩,
    ⟨⟨.mv (.slot 1), some 12, none⟩, []⟩,
    ⟨⟨.mv (.slot 7), some 13, none⟩, []⟩,
    ⟨⟨.mv (.slot 1), some 14, none⟩, []⟩,
    ⟨⟨.mv (.slot 7), some 16, none⟩, []⟩,
    ⟨⟨.mv (.slot 1), some 17, none⟩, []⟩,
    ⟨⟨.un .neg (.slot 17), some 18, none⟩, []⟩,
    ⟨⟨.call (.slot 13) [(.slot 14)], some 15, none⟩, [⟨.load false 1 (.slot 3), some 11, none⟩]⟩,
    ⟨⟨.call (.slot 16) [(.slot 18)], some 19, none⟩, [⟨.load false 1 (.slot 3), some 11, none⟩]⟩,
    ⟨⟨.build [.nilp, (.int .i32 (.ofNat 0)), .nils, .nils, .nils] [(0, 1, (.slot 11)), (1, 1, (.slot 12)), (2, 1, (.slot 15)), (3, 1, (.slot 19))], some 20, none⟩, []⟩,
    ⟨⟨.box (.slot 20), some 21, none⟩, []⟩,
    ⟨⟨.mv (.slot 21), some 8, none⟩, []⟩])
  (.seq (.seq (.region false [⟨⟨.mv (.slot 2), some 22, none⟩, []⟩])
  (.cond (.slot 22)
   (.seq (.region false [⟨⟨.load false 1 (.slot 3), some 23, none⟩, []⟩,
     ⟨⟨.mv (.slot 1), some 24, none⟩, []⟩,
     ⟨⟨.conv .i64 (.slot 24), some 25, none⟩, []⟩,
     ⟨⟨.call (.const (.func 37 [] [])) [(.slot 23), (.slot 25)], some 26, none⟩, []⟩,
     ⟨⟨.mv (.slot 26), some 9, none⟩, []⟩])
   (.seq (.region false [⟨⟨.mv (.slot 9), some 27, none⟩, []⟩,
     ⟨⟨.len .slice (.slot 27), some 28, none⟩, []⟩,
     ⟨⟨.bin .gtr 3 .num (.slot 28) (.const (.int .i64 (.ofNat 0))), some 29, none⟩, []⟩])
   (.cond (.slot 29)
    (.region false [⟨⟨.mv (.slot 8), some 30, none⟩, []⟩,
      ⟨⟨.mv (.slot 9), some 31, none⟩, []⟩,
      ⟨⟨.iaddr 4 (.slot 31) (.const (.int .i64 (.ofNat 0))), some 32, none⟩, []⟩,
      ⟨⟨.faddr 3 (.slot 32), some 33, none⟩, []⟩,
      ⟨⟨.load false 1 (.slot 33), some 34, none⟩, []⟩,
      ⟨⟨.nilCheck (.slot 30), some 35, none⟩, []⟩,
      ⟨⟨.faddr 4 (.slot 35), some 36, none⟩, []⟩,
      ⟨⟨.store 1 (.slot 36) (.slot 34), none, none⟩, []⟩])
    .skip)))
   .skip))
  (.seq (.region false [⟨⟨.mv (.slot 8), some 37, none⟩, []⟩,
    ⟨⟨.mv (.slot 37), some 6, none⟩, []⟩])
  .ret))))),
  [.tmp 6]⟩
theorem xf17_ok : compFunc Tryz.prog Tryz.f17 = some xf17 := by kernel_rfl
/-- (*threshing/elim.sides).can -/
def xf18 : XFunc := ⟨(.seq (.region false [⟨⟨.box (.slot 0), some 2, none⟩, []⟩,
    ⟨⟨.alloc [(.bool false)], some 4, none⟩, []⟩])
  (.seq (.seq (.region true [⟨⟨.load false 1 (.slot 2), some 6, none⟩, []⟩,
    ⟨⟨.nilCheck (.slot 6), some 7, none⟩, []⟩,
    ⟨⟨.faddr 2 (.slot 7), some 8, none⟩, []⟩,
    ⟨⟨.load false 1 (.slot 8), some 9, none⟩, []⟩,
    ⟨⟨.len .slice (.slot 9), some 10, none⟩, []⟩,
    ⟨⟨.load false 1 (.slot 2), some 11, none⟩, []⟩,
    ⟨⟨.nilCheck (.slot 11), some 12, none⟩, []⟩,
    ⟨⟨.faddr 3 (.slot 12), some 13, none⟩, []⟩,
    ⟨⟨.load false 1 (.slot 13), some 14, none⟩, []⟩,
    ⟨⟨.len .slice (.slot 14), some 15, none⟩, []⟩,
    ⟨⟨.bin .add 3 .num (.slot 10) (.slot 15), some 16, none⟩, []⟩,
    ⟨⟨.bin .eql 3 .num (.slot 16) (.const (.int .i64 (.ofNat 0))), some 17, none⟩, []⟩,
    ⟨⟨.mv (.slot 17), some 18, none⟩, []⟩,
    ⟨⟨.load false 1 (.slot 2), some 19, some (18, false)⟩, []⟩,
    ⟨⟨.nilCheck (.slot 19), some 20, some (18, false)⟩, []⟩,
    ⟨⟨.faddr 2 (.slot 20), some 21, some (18, false)⟩, []⟩,
    ⟨⟨.load false 1 (.slot 21), some 22, some (18, false)⟩, []⟩,
    ⟨⟨.len .slice (.slot 22), some 23, some (18, false)⟩, []⟩,
    ⟨⟨.mv (.slot 1), some 24, some (18, false)⟩, []⟩,
    ⟨⟨.bin .gtr 3 .num (.slot 23) (.slot 24), some 25, some (18, false)⟩, []⟩,
    ⟨⟨.pick (.slot 18) (.const (.bool true)) (.slot 25), some 26, none⟩, []⟩,
    ⟨⟨.mv (.slot 26), some 27, none⟩, []⟩,
    ⟨⟨.load false 1 (.slot 2), some 28, some (27, false)⟩, []⟩,
    ⟨⟨.nilCheck (.slot 28), some 29, some (27, false)⟩, []⟩,
    ⟨⟨.faddr 3 (.slot 29), some 30, some (27, false)⟩, []⟩,
    ⟨⟨.load false 1 (.slot 30), some 31, some (27, false)⟩, []⟩,
    ⟨⟨.len .slice (.slot 31), some 32, some (27, false)⟩, []⟩,
    ⟨⟨.mv (.slot 1), some 33, some (27, false)⟩, []⟩,
    ⟨⟨.bin .gtr 3 .num (.slot 32) (.slot 33), some 34, some (27, false)⟩, []⟩,
    ⟨⟨.pick (.slot 27) (.const (.bool true)) (.slot 34), some 35, none⟩, []⟩])
  (.cond (.slot 35)
   (.seq (.region false [⟨⟨.store 1 (.slot 4) (.const (.bool false)), none, none⟩, []⟩])
   .ret)
   .skip))
  (.seq (.seq (.region false [⟨⟨.load false 1 (.slot 2), some 36, none⟩, []⟩,
    ⟨⟨.nilCheck (.slot 36), some 37, none⟩, []⟩,
    ⟨⟨.faddr 2 (.slot 37), some 38, none⟩, []⟩,
    ⟨⟨.load false 1 (.slot 38), some 39, none⟩, []⟩,
    ⟨⟨.mkfunc 39 [] [(.slot 2)], some 40, none⟩, []⟩,
    ⟨⟨.call (.const (.func 38 [] [])) [(.slot 39), (.slot 40)], some 41, none⟩, []⟩])
  (.cond (.slot 41)
   (.seq (.region false [⟨⟨.store 1 (.slot 4) (.const (.bool false)), none, none⟩, []⟩])
   .ret)
   .skip))
  (.seq (.region true [⟨⟨.load false 1 (.slot 2), some 42, none⟩, []⟩,
    ⟨⟨.nilCheck (.slot 42), some 43, none⟩, []⟩,
    ⟨⟨.faddr 2 (.slot 43), some 44, none⟩, []⟩,
    ⟨⟨.load false 1 (.slot 44), some 45, none⟩, []⟩,
    ⟨⟨.len .slice (.slot 45), some 46, none⟩, []⟩,
    ⟨⟨.load false 1 (.slot 2), some 47, none⟩, []⟩,
    ⟨⟨.nilCheck (.slot 47), some 48, none⟩, []⟩,
    ⟨⟨.faddr 3 (.slot 48), some 49, none⟩, []⟩,
    ⟨⟨.load false 1 (.slot 49), some 50, none⟩, []⟩,
    ⟨⟨.len .slice (.slot 50), some 51, none⟩, []⟩,
    ⟨⟨.bin .add 3 .num (.slot 46) (.slot 51), some 52, none⟩, []⟩,
    ⟨⟨.alloc [(.int .i64 (.ofNat 0))], some 5, none⟩, [⟨.load false 1 (.slot 2), some 42, none⟩, ⟨.load false 1 (.slot 44), some 45, none⟩, ⟨.len .slice (.slot 45), some 46, none⟩, ⟨.load false 1 (.slot 2), some 47, none⟩, ⟨.load false 1 (.slot 49), some 50, none⟩, ⟨.len .slice (.slot 50), some 51, none⟩]⟩,
    ⟨⟨.store 1 (.slot 5) (.slot 52), none, none⟩, []⟩])
  (.seq (.seq (.region false [⟨⟨.load false 1 (.slot 2), some 53, none⟩, []⟩,
    ⟨⟨.call (.const (.func 41 [] [])) [(.slot 53)], some 54, none⟩, []⟩])
  (.block 0 (.rangeFunc (.slot 54) [55, 56] .skip
  (.block 1 (.seq (.region false [⟨⟨.load false 1 (.slot 5), some 57, none⟩, []⟩,
    ⟨⟨.bin .sub 3 .num (.slot 57) (.const (.int .i64 (.ofNat 1))), some 58, none⟩, []⟩,
    ⟨⟨.store 1 (.slot 5) (.slot 58), none, none⟩, []⟩])
  (.seq (.region false [⟨⟨.load false 1 (.slot 5), some 59, none⟩, []⟩,
    ⟨⟨.bin .lss 3 .num (.slot 59) (.const (.int .i64 (.ofNat 0))), some 60, none⟩, []⟩])
  (.cond (.slot 60)
   (.seq (.region false [⟨⟨.store 1 (.slot 4) (.const (.bool false)), none, none⟩, []⟩])
   .ret)
   .skip)))))))
  (.seq (.region false [⟨⟨.store 1 (.slot 4) (.const (.bool true)), none, none⟩, []⟩])
  .ret)))))),
  [.cell 4 false 1]⟩
theorem xf18_ok : compFunc Tryz.prog Tryz.f18 = some xf18 := by kernel_rfl
/-- (*threshing/elim.sides).do -/
def xf19 : XFunc := ⟨(.seq (.region false [⟨⟨.box (.slot 0), some 1, none⟩, []⟩,
    ⟨⟨.alloc [(.int .i64 (.ofNat 0))], some 2, none⟩, []⟩])
  (.seq (.seq (.region false [⟨⟨.load false 1 (.slot 1), some 19, none⟩, []⟩,
    ⟨⟨.call (.const (.func 41 [] [])) [(.slot 19)], some 20, none⟩, []⟩])
  (.block 0 (.rangeFunc (.slot 20) [21, 22] (.seq (.region false [⟨⟨.mv (.slot 21), some 3, none⟩, []⟩])
  (.region false [⟨⟨.mv (.slot 22), some 4, none⟩, []⟩]))
  (.block 1 (.seq (.region false [⟨⟨.load false 1 (.slot 1), some 24, none⟩, []⟩,
    ⟨⟨.nilCheck (.slot 24), some 25, none⟩, []⟩,
    ⟨⟨.faddr 0 (.slot 25), some 26, none⟩, []⟩,
    ⟨⟨.load false 1 (.slot 26), some 27, none⟩, []⟩,
    ⟨⟨.mv (.slot 3), some 28, none⟩, []⟩,
    ⟨⟨.mv (.slot 4), some 29, none⟩, []⟩,
    ⟨⟨.call (.const (.func 11 [] [])) [(.slot 27), (.slot 28), (.slot 29), (.const (.bool false))], some 30, none⟩, []⟩,
    ⟨⟨.mv (.slot 30), some 23, none⟩, []⟩,
    ⟨⟨.extract (.slot 23) 0, some 31, none⟩, []⟩,
    ⟨⟨.extract (.slot 23) 1, some 32, none⟩, []⟩,
    ⟨⟨.mv (.slot 31), some 5, none⟩, []⟩,
    ⟨⟨.mv (.slot 32), some 6, none⟩, []⟩])
  (.seq (.region false [⟨⟨.mv (.slot 6), some 33, none⟩, []⟩,
    ⟨⟨.bin .neq 27 .num (.slot 33) (.const (.int .i64 (.ofNat 0))), some 34, none⟩, []⟩])
  (.cond (.slot 34)
   (.seq (.region false [⟨⟨.mv (.slot 6), some 35, none⟩, []⟩,
     ⟨⟨.store 1 (.slot 2) (.slot 35), none, none⟩, []⟩])
   .ret)
   .skip)))))))
  (.seq (.region true [⟨⟨.load false 1 (.slot 1), some 36, none⟩, []⟩,
    ⟨⟨.nilCheck (.slot 36), some 37, none⟩, []⟩,
    ⟨⟨.faddr 0 (.slot 37), some 38, none⟩, []⟩,
    ⟨⟨.load false 1 (.slot 38), some 39, none⟩, []⟩,
    ⟨⟨.load false 1 (.slot 1), some 40, none⟩, []⟩,
    ⟨⟨.nilCheck (.slot 40), some 41, none⟩, []⟩,
    ⟨⟨.faddr 1 (.slot 41), some 42, none⟩, []⟩,
    ⟨⟨.load false 1 (.slot 42), some 43, none⟩, []⟩,
    ⟨⟨.load false 1 (.slot 1), some 45, none⟩, []⟩,
    ⟨⟨.nilCheck (.slot 45), some 46, none⟩, []⟩,
    ⟨⟨.faddr 0 (.slot 46), some 47, none⟩, []⟩,
    ⟨⟨.load false 1 (.slot 47), some 48, none⟩, []⟩,
    ⟨⟨.load false 1 (.slot 1), some 49, none⟩, []⟩,
    ⟨⟨.nilCheck (.slot 49), some 50, none⟩, []⟩,
    ⟨⟨.faddr 1 (.slot 50), some 51, none⟩, []⟩,
    ⟨⟨.load false 1 (.slot 51), some 52, none⟩, []⟩,
    ⟨⟨.un .neg (.slot 52), some 53, none⟩, []⟩,
    ⟨⟨.call (.const (.func 10 [] [])) [(.slot 39), (.slot 43)], some 44, none⟩, [⟨.load false 1 (.slot 1), some 45, none⟩, ⟨.load false 1 (.slot 47), some 48, none⟩, ⟨.load false 1 (.slot 1), some 49, none⟩, ⟨.load false 1 (.slot 51), some 52, none⟩]⟩,
    ⟨⟨.call (.const (.func 10 [] [])) [(.slot 48), (.slot 53)], some 54, none⟩, []⟩,
    ⟨⟨.bslice 1 [.nils, .nils] [(0, 1, (.slot 44)), (1, 1, (.slot 54))] 2, some 55, none⟩, []⟩,
    ⟨⟨.call (.const (.func 42 [] [])) [(.slot 55)], some 56, none⟩, []⟩,
    ⟨⟨.mv (.slot 56), some 7, none⟩, []⟩])
  (.seq (.region false [⟨⟨.mv (.slot 7), some 57, none⟩, []⟩,
    ⟨⟨.call (.const (.func 43 [] [])) [(.slot 57)], some 58, none⟩, []⟩])
  (.seq (.seq (.region false [⟨⟨.mv (.slot 7), some 59, none⟩, []⟩,
    ⟨⟨.call (.const (.func 44 [] [])) [(.slot 59)], some 60, none⟩, []⟩,
    ⟨⟨.len .slice (.slot 60), some 61, none⟩, []⟩,
    ⟨⟨.mv (.const (.int .i64 (.ofNat 0))), some 62, none⟩, []⟩])
  (.block 2 (.loop (.seq (.region false [⟨⟨.bin .lss 3 .num (.slot 62) (.slot 61), some 63, none⟩, []⟩])
   (.seq (.cond (.slot 63)
    .skip
    (.exit 2))
   (.seq (.block 3 (.seq (.region false [⟨⟨.iaddr 1 (.slot 60) (.slot 62), some 64, none⟩, []⟩,
     ⟨⟨.load false 1 (.slot 64), some 65, none⟩, []⟩,
     ⟨⟨.mv (.slot 65), some 9, none⟩, []⟩])
   (.seq (.seq (.region false [⟨⟨.load false 1 (.slot 1), some 67, none⟩, []⟩,
     ⟨⟨.nilCheck (.slot 67), some 68, none⟩, []⟩,
     ⟨⟨.faddr 0 (.slot 68), some 69, none⟩, []⟩,
     ⟨⟨.load false 1 (.slot 69), some 70, none⟩, []⟩,
     ⟨⟨.mv (.slot 9), some 71, none⟩, []⟩,
     ⟨⟨.call (.const (.func 12 [] [])) [(.slot 70), (.slot 71)], some 72, none⟩, []⟩,
     ⟨⟨.mv (.slot 72), some 66, none⟩, []⟩,
     ⟨⟨.extract (.slot 66) 0, some 73, none⟩, []⟩,
     ⟨⟨.extract (.slot 66) 1, some 74, none⟩, []⟩,
     ⟨⟨.alloc [(.int .i64 (.ofNat 0)), .nils, (.bool false)], some 10, none⟩, []⟩,
     ⟨⟨.store 3 (.slot 10) (.slot 73), none, none⟩, []⟩,
     ⟨⟨.mv (.slot 74), some 11, none⟩, []⟩])
   (.seq (.region false [⟨⟨.faddr 2 (.slot 10), some 75, none⟩, []⟩,
     ⟨⟨.load false 1 (.slot 75), some 76, none⟩, []⟩,
     ⟨⟨.un .not (.slot 76), some 77, none⟩, []⟩])
   (.cond (.slot 77)
    (.exit 3)
    .skip)))
   (.seq (.region false [⟨⟨.load false 1 (.slot 1), some 78, none⟩, []⟩,
     ⟨⟨.nilCheck (.slot 78), some 79, none⟩, []⟩,
     ⟨⟨.faddr 0 (.slot 79), some 80, none⟩, []⟩,
     ⟨⟨.load false 1 (.slot 80), some 81, none⟩, []⟩,
     ⟨⟨.mv (.slot 9), some 82, none⟩, []⟩,
     ⟨⟨.call (.const (.func 45 [] [])) [(.slot 81), (.slot 82)], some 83, none⟩, []⟩,
     ⟨⟨.mv (.slot 83), some 12, none⟩, []⟩])
   (.seq (.region false [⟨⟨.mv (.slot 12), some 84, none⟩, []⟩,
     ⟨⟨.bin .neq 27 .num (.slot 84) (.const (.int .i64 (.ofNat 0))), some 85, none⟩, []⟩])
   (.cond (.slot 85)
    (.seq (.region false [⟨⟨.mv (.slot 12), some 86, none⟩, []⟩,
      ⟨⟨.store 1 (.slot 2) (.slot 86), none, none⟩, []⟩])
    .ret)
    .skip))))))
   (.region false [⟨⟨.bin .add 3 .num (.slot 62) (.const (.int .i64 (.ofNat 1))), some 87, none⟩, []⟩,
     ⟨⟨.mv (.slot 87), some 62, none⟩, []⟩])))))))
  (.seq (.seq (.region false [⟨⟨.load false 1 (.slot 1), some 88, none⟩, []⟩,
    ⟨⟨.nilCheck (.slot 88), some 89, none⟩, []⟩,
    ⟨⟨.faddr 2 (.slot 89), some 90, none⟩, []⟩,
    ⟨⟨.load false 1 (.slot 90), some 91, none⟩, []⟩,
    ⟨⟨.len .slice (.slot 91), some 92, none⟩, []⟩,
    ⟨⟨.mv (.const (.int .i64 (.ofNat 0))), some 93, none⟩, []⟩])
  (.block 4 (.loop (.seq (.region false [⟨⟨.bin .lss 3 .num (.slot 93) (.slot 92), some 94, none⟩, []⟩])
   (.seq (.cond (.slot 94)
    .skip
    (.exit 4))
   (.seq (.block 5 (.seq (.region false [⟨⟨.iaddr 3 (.slot 91) (.slot 93), some 95, none⟩, []⟩,
     ⟨⟨.load true 3 (.slot 95), some 96, none⟩, []⟩,
     ⟨⟨.alloc [(.int .i64 (.ofNat 0)), .nils, (.bool false)], some 14, none⟩, []⟩,
     ⟨⟨.store 3 (.slot 14) (.slot 96), none, none⟩, []⟩])
   (.seq (.region true [⟨⟨.load false 1 (.slot 1), some 97, none⟩, []⟩,
     ⟨⟨.nilCheck (.slot 97), some 98, none⟩, []⟩,
     ⟨⟨.faddr 0 (.slot 98), some 99, none⟩, []⟩,
     ⟨⟨.load false 1 (.slot 99), some 100, none⟩, []⟩,
     ⟨⟨.faddr 0 (.slot 14), some 101, none⟩, []⟩,
     ⟨⟨.load false 1 (.slot 101), some 102, none⟩, []⟩,
     ⟨⟨.load false 1 (.slot 1), some 103, none⟩, []⟩,
     ⟨⟨.nilCheck (.slot 103), some 104, none⟩, []⟩,
     ⟨⟨.faddr 1 (.slot 104), some 105, none⟩, []⟩,
     ⟨⟨.load false 1 (.slot 105), some 106, none⟩, []⟩,
     ⟨⟨.bslice 1 [(.int .i32 (.ofNat 0))] [(0, 1, (.slot 106))] 1, some 107, none⟩, [⟨.load false 1 (.slot 1), some 97, none⟩, ⟨.load false 1 (.slot 99), some 100, none⟩, ⟨.load false 1 (.slot 101), some 102, none⟩]⟩,
     ⟨⟨.call (.const (.func 46 [] [])) [(.slot 100), (.slot 102), (.slot 107)], some 108, none⟩, []⟩,
     ⟨⟨.mv (.slot 108), some 15, none⟩, []⟩])
   (.seq (.region false [⟨⟨.mv (.slot 15), some 109, none⟩, []⟩,
     ⟨⟨.bin .neq 27 .num (.slot 109) (.const (.int .i64 (.ofNat 0))), some 110, none⟩, []⟩])
   (.cond (.slot 110)
    (.seq (.region false [⟨⟨.mv (.slot 15), some 111, none⟩, []⟩,
      ⟨⟨.store 1 (.slot 2) (.slot 111), none, none⟩, []⟩])
    .ret)
    .skip)))))
   (.region false [⟨⟨.bin .add 3 .num (.slot 93) (.const (.int .i64 (.ofNat 1))), some 112, none⟩, []⟩,
     ⟨⟨.mv (.slot 112), some 93, none⟩, []⟩])))))))
  (.seq (.seq (.region false [⟨⟨.load false 1 (.slot 1), some 113, none⟩, []⟩,
    ⟨⟨.nilCheck (.slot 113), some 114, none⟩, []⟩,
    ⟨⟨.faddr 3 (.slot 114), some 115, none⟩, []⟩,
    ⟨⟨.load false 1 (.slot 115), some 116, none⟩, []⟩,
    ⟨⟨.len .slice (.slot 116), some 117, none⟩, []⟩,
    ⟨⟨.mv (.const (.int .i64 (.ofNat 0))), some 118, none⟩, []⟩])
  (.block 6 (.loop (.seq (.region false [⟨⟨.bin .lss 3 .num (.slot 118) (.slot 117), some 119, none⟩, []⟩])
   (.seq (.cond (.slot 119)
    .skip
    (.exit 6))
   (.seq (.block 7 (.seq (.region false [⟨⟨.iaddr 3 (.slot 116) (.slot 118), some 120, none⟩, []⟩,
     ⟨⟨.load true 3 (.slot 120), some 121, none⟩, []⟩,
     ⟨⟨.alloc [(.int .i64 (.ofNat 0)), .nils, (.bool false)], some 17, none⟩, []⟩,
     ⟨⟨.store 3 (.slot 17) (.slot 121), none, none⟩, []⟩])
   (.seq (.region true [⟨⟨.load false 1 (.slot 1), some 122, none⟩, []⟩,
     ⟨⟨.nilCheck (.slot 122), some 123, none⟩, []⟩,
     ⟨⟨.faddr 0 (.slot 123), some 124, none⟩, []⟩,
     ⟨⟨.load false 1 (.slot 124), some 125, none⟩, []⟩,
     ⟨⟨.faddr 0 (.slot 17), some 126, none⟩, []⟩,
     ⟨⟨.load false 1 (.slot 126), some 127, none⟩, []⟩,
     ⟨⟨.load false 1 (.slot 1), some 128, none⟩, []⟩,
     ⟨⟨.nilCheck (.slot 128), some 129, none⟩, []⟩,
     ⟨⟨.faddr 1 (.slot 129), some 130, none⟩, []⟩,
     ⟨⟨.load false 1 (.slot 130), some 131, none⟩, []⟩,
     ⟨⟨.un .neg (.slot 131), some 132, none⟩, []⟩,
     ⟨⟨.bslice 1 [(.int .i32 (.ofNat 0))] [(0, 1, (.slot 132))] 1, some 133, none⟩, [⟨.load false 1 (.slot 1), some 122, none⟩, ⟨.load false 1 (.slot 124), some 125, none⟩, ⟨.load false 1 (.slot 126), some 127, none⟩]⟩,
     ⟨⟨.call (.const (.func 46 [] [])) [(.slot 125), (.slot 127), (.slot 133)], some 134, none⟩, []⟩,
     ⟨⟨.mv (.slot 134), some 18, none⟩, []⟩])
   (.seq (.region false [⟨⟨.mv (.slot 18), some 135, none⟩, []⟩,
     ⟨⟨.bin .neq 27 .num (.slot 135) (.const (.int .i64 (.ofNat 0))), some 136, none⟩, []⟩])
   (.cond (.slot 136)
    (.seq (.region false [⟨⟨.mv (.slot 18), some 137, none⟩, []⟩,
      ⟨⟨.store 1 (.slot 2) (.slot 137), none, none⟩, []⟩])
    .ret)
    .skip)))))
   (.region false [⟨⟨.bin .add 3 .num (.slot 118) (.const (.int .i64 (.ofNat 1))), some 138, none⟩, []⟩,
     ⟨⟨.mv (.slot 138), some 118, none⟩, []⟩])))))))
  (.seq (.region false [⟨⟨.store 1 (.slot 2) (.const (.int .i64 (.ofNat 0))), none, none⟩, []⟩])
  .ret)))))))),
  [.cell 2 false 1]⟩
theorem xf19_ok : compFunc Tryz.prog Tryz.f19 = some xf19 := by kernel_rfl
end Go.Proofs.YtdceckhkmfbpmaaGreat

/- The functions of the program in X's code, printed by a program of ours; each is what the program's own is turned to. -/
import Derived.Test.YtndkeibkcadpkaaGreatProg
import Derived.Test.YtndkeibkcadpkaaGreatXc
import Derived.KernelRfl
namespace Go.Proofs.YtndkeibkcadpkaaGreat
open Go.Xr
/-- gosem.cut.init -/
def xf2 : XFunc := ⟨(.region false [⟨⟨.call (.const (.func 1 [] [])) [], some 0, none⟩, []⟩]),
  []⟩
theorem xf2_ok : compFunc Tryz.prog Tryz.f2 = some xf2 := by kernel_rfl
/-- threshing/threshinglaw20.UnitKnown -/
def xf3 : XFunc := ⟨(.seq (.region false [⟨⟨.mv (.const (.bool false)), some 0, none⟩, []⟩])
  (.seq (.region false [⟨⟨.call (.const (.func 5 [] [])) [], some 38, none⟩, []⟩,
    ⟨⟨.call (.const (.func 4 [] [])) [(.slot 38)], some 39, none⟩, []⟩,
    ⟨⟨.mv (.slot 39), some 37, none⟩, []⟩,
    ⟨⟨.extract (.slot 37) 0, some 40, none⟩, []⟩,
    ⟨⟨.extract (.slot 37) 1, some 41, none⟩, []⟩,
    ⟨⟨.mv (.slot 40), some 1, none⟩, []⟩,
    ⟨⟨.mv (.slot 41), some 2, none⟩, []⟩])
  (.seq (.region false [⟨⟨.mv (.slot 1), some 43, none⟩, []⟩,
    ⟨⟨.call (.const (.func 6 [] [])) [(.slot 43), (.const .nils), (.const (.int .i64 (.ofNat 0)))], some 44, none⟩, []⟩,
    ⟨⟨.mv (.slot 44), some 42, none⟩, []⟩,
    ⟨⟨.extract (.slot 42) 0, some 45, none⟩, []⟩,
    ⟨⟨.extract (.slot 42) 1, some 46, none⟩, []⟩,
    ⟨⟨.alloc [.nils, .nils, (.int .i64 (.ofNat 0))], some 3, none⟩, []⟩,
    ⟨⟨.store 3 (.slot 3) (.slot 45), none, none⟩, []⟩,
    ⟨⟨.mv (.slot 46), some 4, none⟩, []⟩])
  (.seq (.region false [⟨⟨.mv (.slot 1), some 48, none⟩, []⟩,
    ⟨⟨.bslice 1 [(.int .i32 (.ofNat 0)), (.int .i32 (.ofNat 0))] [(0, 1, (.const (.int .i32 (.negSucc 2)))), (1, 1, (.const (.int .i32 (.negSucc 2))))] 2, some 49, none⟩, []⟩,
    ⟨⟨.call (.const (.func 6 [] [])) [(.slot 48), (.slot 49), (.const (.int .i64 (.ofNat 2)))], some 50, none⟩, []⟩,
    ⟨⟨.mv (.slot 50), some 47, none⟩, []⟩,
    ⟨⟨.extract (.slot 47) 0, some 51, none⟩, []⟩,
    ⟨⟨.extract (.slot 47) 1, some 52, none⟩, []⟩,
    ⟨⟨.alloc [.nils, .nils, (.int .i64 (.ofNat 0))], some 5, none⟩, []⟩,
    ⟨⟨.store 3 (.slot 5) (.slot 51), none, none⟩, []⟩,
    ⟨⟨.mv (.slot 52), some 6, none⟩, []⟩])
  (.seq (.region false [⟨⟨.mv (.slot 1), some 54, none⟩, []⟩,
    ⟨⟨.bslice 1 [(.int .i32 (.ofNat 0))] [(0, 1, (.const (.int .i32 (.negSucc 1))))] 1, some 55, none⟩, []⟩,
    ⟨⟨.call (.const (.func 6 [] [])) [(.slot 54), (.slot 55), (.const (.int .i64 (.ofNat 0)))], some 56, none⟩, []⟩,
    ⟨⟨.mv (.slot 56), some 53, none⟩, []⟩,
    ⟨⟨.extract (.slot 53) 0, some 57, none⟩, []⟩,
    ⟨⟨.extract (.slot 53) 1, some 58, none⟩, []⟩,
    ⟨⟨.alloc [.nils, .nils, (.int .i64 (.ofNat 0))], some 7, none⟩, []⟩,
    ⟨⟨.store 3 (.slot 7) (.slot 57), none, none⟩, []⟩,
    ⟨⟨.mv (.slot 58), some 8, none⟩, []⟩])
  (.seq (.region false [⟨⟨.mv (.slot 4), some 59, none⟩, []⟩,
    ⟨⟨.bin .eql 23 .num (.slot 59) (.const (.int .i64 (.ofNat 0))), some 60, none⟩, []⟩,
    ⟨⟨.mv (.slot 60), some 61, none⟩, []⟩,
    ⟨⟨.faddr 0 (.slot 3), some 62, some (61, true)⟩, []⟩,
    ⟨⟨.load false 1 (.slot 62), some 63, some (61, true)⟩, []⟩,
    ⟨⟨.bslice 1 [(.int .i32 (.ofNat 0)), (.int .i32 (.ofNat 0))] [(0, 1, (.const (.int .i32 (.ofNat 1)))), (1, 1, (.const (.int .i32 (.ofNat 2))))] 2, some 64, some (61, true)⟩, []⟩,
    ⟨⟨.call (.const (.func 7 [] [])) [(.slot 63), (.slot 64)], some 65, some (61, true)⟩, []⟩,
    ⟨⟨.pick (.slot 61) (.slot 65) (.const (.bool false)), some 66, none⟩, []⟩,
    ⟨⟨.mv (.slot 66), some 67, none⟩, []⟩,
    ⟨⟨.faddr 1 (.slot 3), some 68, some (67, true)⟩, []⟩,
    ⟨⟨.load false 1 (.slot 68), some 69, some (67, true)⟩, []⟩,
    ⟨⟨.bslice 1 [(.int .i64 (.ofNat 0)), (.int .i64 (.ofNat 0))] [(0, 1, (.const (.int .i64 (.ofNat 1)))), (1, 1, (.const (.int .i64 (.ofNat 2))))] 2, some 70, some (67, true)⟩, []⟩,
    ⟨⟨.call (.const (.func 8 [] [])) [(.slot 69), (.slot 70)], some 71, some (67, true)⟩, []⟩,
    ⟨⟨.pick (.slot 67) (.slot 71) (.const (.bool false)), some 72, none⟩, []⟩,
    ⟨⟨.mv (.slot 72), some 73, none⟩, []⟩,
    ⟨⟨.mv (.slot 6), some 74, some (73, true)⟩, []⟩,
    ⟨⟨.bin .eql 23 .num (.slot 74) (.const (.int .i64 (.ofNat 0))), some 75, some (73, true)⟩, []⟩,
    ⟨⟨.pick (.slot 73) (.slot 75) (.const (.bool false)), some 76, none⟩, []⟩,
    ⟨⟨.mv (.slot 76), some 77, none⟩, []⟩,
    ⟨⟨.faddr 0 (.slot 5), some 78, some (77, true)⟩, []⟩,
    ⟨⟨.load false 1 (.slot 78), some 79, some (77, true)⟩, []⟩,
    ⟨⟨.bslice 1 [(.int .i32 (.ofNat 0)), (.int .i32 (.ofNat 0))] [(0, 1, (.const (.int .i32 (.negSucc 2)))), (1, 1, (.const (.int .i32 (.ofNat 1))))] 2, some 80, some (77, true)⟩, []⟩,
    ⟨⟨.call (.const (.func 7 [] [])) [(.slot 79), (.slot 80)], some 81, some (77, true)⟩, []⟩,
    ⟨⟨.pick (.slot 77) (.slot 81) (.const (.bool false)), some 82, none⟩, []⟩,
    ⟨⟨.mv (.slot 82), some 83, none⟩, []⟩,
    ⟨⟨.load true 3 (.slot 5), some 84, some (83, true)⟩, []⟩,
    ⟨⟨.call (.const (.func 9 [] [])) [(.slot 84), (.const (.int .i32 (.ofNat 1)))], some 85, some (83, true)⟩, []⟩,
    ⟨⟨.bslice 1 [(.int .i64 (.ofNat 0))] [(0, 1, (.const (.int .i64 (.ofNat 1))))] 1, some 86, some (83, true)⟩, []⟩,
    ⟨⟨.call (.const (.func 8 [] [])) [(.slot 85), (.slot 86)], some 87, some (83, true)⟩, []⟩,
    ⟨⟨.pick (.slot 83) (.slot 87) (.const (.bool false)), some 88, none⟩, []⟩,
    ⟨⟨.mv (.slot 88), some 89, none⟩, []⟩,
    ⟨⟨.load true 3 (.slot 5), some 90, some (89, true)⟩, []⟩,
    ⟨⟨.call (.const (.func 9 [] [])) [(.slot 90), (.const (.int .i32 (.negSucc 2)))], some 91, some (89, true)⟩, []⟩,
    ⟨⟨.len .slice (.slot 91), some 92, some (89, true)⟩, []⟩,
    ⟨⟨.bin .eql 3 .num (.slot 92) (.const (.int .i64 (.ofNat 0))), some 93, some (89, true)⟩, []⟩,
    ⟨⟨.pick (.slot 89) (.slot 93) (.const (.bool false)), some 94, none⟩, []⟩,
    ⟨⟨.mv (.slot 94), some 95, none⟩, []⟩,
    ⟨⟨.load true 3 (.slot 5), some 96, some (95, true)⟩, []⟩,
    ⟨⟨.call (.const (.func 9 [] [])) [(.slot 96), (.const (.int .i32 (.ofNat 5)))], some 97, some (95, true)⟩, []⟩,
    ⟨⟨.len .slice (.slot 97), some 98, some (95, true)⟩, []⟩,
    ⟨⟨.bin .eql 3 .num (.slot 98) (.const (.int .i64 (.ofNat 0))), some 99, some (95, true)⟩, []⟩,
    ⟨⟨.pick (.slot 95) (.slot 99) (.const (.bool false)), some 100, none⟩, []⟩,
    ⟨⟨.mv (.slot 100), some 101, none⟩, []⟩,
    ⟨⟨.mv (.slot 8), some 102, some (101, true)⟩, []⟩,
    ⟨⟨.bin .eql 23 .num (.slot 102) (.const (.int .i64 (.ofNat 0))), some 103, some (101, true)⟩, []⟩,
    ⟨⟨.pick (.slot 101) (.slot 103) (.const (.bool false)), some 104, none⟩, []⟩,
    ⟨⟨.mv (.slot 104), some 105, none⟩, []⟩,
    ⟨⟨.faddr 0 (.slot 7), some 106, some (105, true)⟩, []⟩,
    ⟨⟨.load false 1 (.slot 106), some 107, some (105, true)⟩, []⟩,
    ⟨⟨.bslice 1 [(.int .i32 (.ofNat 0)), (.int .i32 (.ofNat 0))] [(0, 1, (.const (.int .i32 (.negSucc 1)))), (1, 1, (.const (.int .i32 (.ofNat 1))))] 2, some 108, some (105, true)⟩, []⟩,
    ⟨⟨.call (.const (.func 7 [] [])) [(.slot 107), (.slot 108)], some 109, some (105, true)⟩, []⟩,
    ⟨⟨.pick (.slot 105) (.slot 109) (.const (.bool false)), some 110, none⟩, []⟩,
    ⟨⟨.mv (.slot 110), some 111, none⟩, []⟩,
    ⟨⟨.faddr 2 (.slot 7), some 112, some (111, true)⟩, []⟩,
    ⟨⟨.load false 1 (.slot 112), some 113, some (111, true)⟩, []⟩,
    ⟨⟨.bin .eql 2 .num (.slot 113) (.const (.int .i64 (.ofNat 2))), some 114, some (111, true)⟩, []⟩,
    ⟨⟨.pick (.slot 111) (.slot 114) (.const (.bool false)), some 115, none⟩, []⟩,
    ⟨⟨.mv (.slot 115), some 116, none⟩, []⟩,
    ⟨⟨.load true 3 (.slot 7), some 117, some (116, true)⟩, []⟩,
    ⟨⟨.call (.const (.func 10 [] [])) [(.slot 117)], some 118, some (116, true)⟩, []⟩,
    ⟨⟨.bslice 1 [(.int .i64 (.ofNat 0)), (.int .i64 (.ofNat 0))] [(0, 1, (.const (.int .i64 (.ofNat 1)))), (1, 1, (.const (.int .i64 (.ofNat 2))))] 2, some 119, some (116, true)⟩, []⟩,
    ⟨⟨.call (.const (.func 8 [] [])) [(.slot 118), (.slot 119)], some 120, some (116, true)⟩, []⟩,
    ⟨⟨.pick (.slot 116) (.slot 120) (.const (.bool false)), some 121, none⟩, []⟩,
    ⟨⟨.mv (.slot 121), some 9, none⟩, []⟩])
  (.seq (.region false [⟨⟨.mv (.slot 1), some 123, none⟩, []⟩,
    ⟨⟨.bslice 1 [(.int .i32 (.ofNat 0))] [(0, 1, (.const (.int .i32 (.ofNat 6))))] 1, some 124, none⟩, []⟩,
    ⟨⟨.call (.const (.func 6 [] [])) [(.slot 123), (.slot 124), (.const (.int .i64 (.ofNat 0)))], some 125, none⟩, []⟩,
    ⟨⟨.mv (.slot 125), some 122, none⟩, []⟩,
    ⟨⟨.extract (.slot 122) 0, some 126, none⟩, []⟩,
    ⟨⟨.extract (.slot 122) 1, some 127, none⟩, []⟩,
    ⟨⟨.alloc [.nils, .nils, (.int .i64 (.ofNat 0))], some 10, none⟩, []⟩,
    ⟨⟨.store 3 (.slot 10) (.slot 126), none, none⟩, []⟩,
    ⟨⟨.mv (.slot 127), some 11, none⟩, []⟩])
  (.seq (.region false [⟨⟨.mv (.slot 1), some 129, none⟩, []⟩,
    ⟨⟨.bslice 1 [(.int .i32 (.ofNat 0)), (.int .i32 (.ofNat 0))] [(0, 1, (.const (.int .i32 (.ofNat 1)))), (1, 1, (.const (.int .i32 (.ofNat 0))))] 2, some 130, none⟩, []⟩,
    ⟨⟨.call (.const (.func 6 [] [])) [(.slot 129), (.slot 130), (.const (.int .i64 (.ofNat 0)))], some 131, none⟩, []⟩,
    ⟨⟨.mv (.slot 131), some 128, none⟩, []⟩,
    ⟨⟨.extract (.slot 128) 0, some 132, none⟩, []⟩,
    ⟨⟨.extract (.slot 128) 1, some 133, none⟩, []⟩,
    ⟨⟨.alloc [.nils, .nils, (.int .i64 (.ofNat 0))], some 12, none⟩, []⟩,
    ⟨⟨.store 3 (.slot 12) (.slot 132), none, none⟩, []⟩,
    ⟨⟨.mv (.slot 133), some 13, none⟩, []⟩])
  (.seq (.region false [⟨⟨.mv (.slot 1), some 135, none⟩, []⟩,
    ⟨⟨.bslice 1 [(.int .i32 (.ofNat 0)), (.int .i32 (.ofNat 0))] [(0, 1, (.const (.int .i32 (.ofNat 1)))), (1, 1, (.const (.int .i32 (.negSucc 0))))] 2, some 136, none⟩, []⟩,
    ⟨⟨.call (.const (.func 6 [] [])) [(.slot 135), (.slot 136), (.const (.int .i64 (.ofNat 0)))], some 137, none⟩, []⟩,
    ⟨⟨.mv (.slot 137), some 134, none⟩, []⟩,
    ⟨⟨.extract (.slot 134) 0, some 138, none⟩, []⟩,
    ⟨⟨.extract (.slot 134) 1, some 139, none⟩, []⟩,
    ⟨⟨.alloc [.nils, .nils, (.int .i64 (.ofNat 0))], some 14, none⟩, []⟩,
    ⟨⟨.store 3 (.slot 14) (.slot 138), none, none⟩, []⟩,
    ⟨⟨.mv (.slot 139), some 15, none⟩, []⟩])
  (.seq (.region false [⟨⟨.call (.const (.func 6 [] [])) [(.const .nilp), (.const .nils), (.const (.int .i64 (.ofNat 0)))], some 141, none⟩, []⟩,
    ⟨⟨.mv (.slot 141), some 140, none⟩, []⟩,
    ⟨⟨.extract (.slot 140) 0, some 142, none⟩, []⟩,
    ⟨⟨.extract (.slot 140) 1, some 143, none⟩, []⟩,
    ⟨⟨.alloc [.nils, .nils, (.int .i64 (.ofNat 0))], some 16, none⟩, []⟩,
    ⟨⟨.store 3 (.slot 16) (.slot 142), none, none⟩, []⟩,
    ⟨⟨.mv (.slot 143), some 17, none⟩, []⟩])
  (.seq (.region false [⟨⟨.call (.const (.func 11 [] [])) [(.const .nilp), (.const (.int .i64 (.ofNat 1)))], some 145, none⟩, []⟩,
    ⟨⟨.mv (.slot 145), some 144, none⟩, []⟩,
    ⟨⟨.extract (.slot 144) 0, some 146, none⟩, []⟩,
    ⟨⟨.extract (.slot 144) 1, some 147, none⟩, []⟩,
    ⟨⟨.mv (.slot 146), some 18, none⟩, []⟩,
    ⟨⟨.mv (.slot 147), some 19, none⟩, []⟩])
  (.seq (.region false [⟨⟨.mv (.slot 1), some 149, none⟩, []⟩,
    ⟨⟨.call (.const (.func 11 [] [])) [(.slot 149), (.const (.int .i64 (.negSucc 0)))], some 150, none⟩, []⟩,
    ⟨⟨.mv (.slot 150), some 148, none⟩, []⟩,
    ⟨⟨.extract (.slot 148) 0, some 151, none⟩, []⟩,
    ⟨⟨.extract (.slot 148) 1, some 152, none⟩, []⟩,
    ⟨⟨.mv (.slot 151), some 20, none⟩, []⟩,
    ⟨⟨.mv (.slot 152), some 21, none⟩, []⟩])
  (.seq (.region false [⟨⟨.mv (.slot 1), some 154, none⟩, []⟩,
    ⟨⟨.call (.const (.func 11 [] [])) [(.slot 154), (.const (.int .i64 (.ofNat 0)))], some 155, none⟩, []⟩,
    ⟨⟨.mv (.slot 155), some 153, none⟩, []⟩,
    ⟨⟨.extract (.slot 153) 0, some 156, none⟩, []⟩,
    ⟨⟨.extract (.slot 153) 1, some 157, none⟩, []⟩,
    ⟨⟨.mv (.slot 156), some 22, none⟩, []⟩,
    ⟨⟨.mv (.slot 157), some 23, none⟩, []⟩])
  (.seq (.region false [⟨⟨.mv (.slot 11), some 158, none⟩, []⟩,
    ⟨⟨.bin .eql 23 .num (.slot 158) (.const (.int .i64 (.ofNat 4))), some 159, none⟩, []⟩,
    ⟨⟨.mv (.slot 159), some 160, none⟩, []⟩,
    ⟨⟨.mv (.slot 13), some 161, some (160, true)⟩, []⟩,
    ⟨⟨.bin .eql 23 .num (.slot 161) (.const (.int .i64 (.ofNat 4))), some 162, some (160, true)⟩, []⟩,
    ⟨⟨.pick (.slot 160) (.slot 162) (.const (.bool false)), some 163, none⟩, []⟩,
    ⟨⟨.mv (.slot 163), some 164, none⟩, []⟩,
    ⟨⟨.mv (.slot 15), some 165, some (164, true)⟩, []⟩,
    ⟨⟨.bin .eql 23 .num (.slot 165) (.const (.int .i64 (.ofNat 2))), some 166, some (164, true)⟩, []⟩,
    ⟨⟨.pick (.slot 164) (.slot 166) (.const (.bool false)), some 167, none⟩, []⟩,
    ⟨⟨.mv (.slot 167), some 168, none⟩, []⟩,
    ⟨⟨.mv (.slot 17), some 169, some (168, true)⟩, []⟩,
    ⟨⟨.bin .eql 23 .num (.slot 169) (.const (.int .i64 (.ofNat 1))), some 170, some (168, true)⟩, []⟩,
    ⟨⟨.pick (.slot 168) (.slot 170) (.const (.bool false)), some 171, none⟩, []⟩,
    ⟨⟨.mv (.slot 171), some 172, none⟩, []⟩,
    ⟨⟨.mv (.slot 19), some 173, some (172, true)⟩, []⟩,
    ⟨⟨.bin .eql 23 .num (.slot 173) (.const (.int .i64 (.ofNat 1))), some 174, some (172, true)⟩, []⟩,
    ⟨⟨.pick (.slot 172) (.slot 174) (.const (.bool false)), some 175, none⟩, []⟩,
    ⟨⟨.mv (.slot 175), some 176, none⟩, []⟩,
    ⟨⟨.mv (.slot 21), some 177, some (176, true)⟩, []⟩,
    ⟨⟨.bin .eql 23 .num (.slot 177) (.const (.int .i64 (.ofNat 2))), some 178, some (176, true)⟩, []⟩,
    ⟨⟨.pick (.slot 176) (.slot 178) (.const (.bool false)), some 179, none⟩, []⟩,
    ⟨⟨.mv (.slot 179), some 180, none⟩, []⟩,
    ⟨⟨.mv (.slot 22), some 181, some (180, true)⟩, []⟩,
    ⟨⟨.bin .eql 3 .num (.slot 181) (.const (.int .i64 (.ofNat 0))), some 182, some (180, true)⟩, []⟩,
    ⟨⟨.pick (.slot 180) (.slot 182) (.const (.bool false)), some 183, none⟩, []⟩,
    ⟨⟨.mv (.slot 183), some 184, none⟩, []⟩,
    ⟨⟨.mv (.slot 23), some 185, some (184, true)⟩, []⟩,
    ⟨⟨.bin .eql 23 .num (.slot 185) (.const (.int .i64 (.ofNat 0))), some 186, some (184, true)⟩, []⟩,
    ⟨⟨.pick (.slot 184) (.slot 186) (.const (.bool false)), some 187, none⟩, []⟩,
    ⟨⟨.mv (.slot 187), some 188, none⟩, []⟩,
    ⟨⟨.mv (.slot 1), some 189, some (188, true)⟩, []⟩,
    ⟨⟨.call (.const (.func 12 [] [])) [(.slot 189)], some 190, some (188, true)⟩, []⟩,
    ⟨⟨.bin .eql 2 .num (.slot 190) (.const (.int .i64 (.ofNat 5))), some 191, some (188, true)⟩, []⟩,
    ⟨⟨.pick (.slot 188) (.slot 191) (.const (.bool false)), some 192, none⟩, []⟩,
    ⟨⟨.mv (.slot 192), some 24, none⟩, []⟩])
  (.seq (.region false [⟨⟨.mv (.slot 1), some 194, none⟩, []⟩,
    ⟨⟨.call (.const (.func 11 [] [])) [(.slot 194), (.const (.int .i64 (.ofNat 9)))], some 195, none⟩, []⟩,
    ⟨⟨.mv (.slot 195), some 193, none⟩, []⟩,
    ⟨⟨.extract (.slot 193) 0, some 196, none⟩, []⟩,
    ⟨⟨.extract (.slot 193) 1, some 197, none⟩, []⟩,
    ⟨⟨.mv (.slot 196), some 25, none⟩, []⟩,
    ⟨⟨.mv (.slot 197), some 26, none⟩, []⟩])
  (.seq (.region false [⟨⟨.bslice 1 [(.int .i32 (.ofNat 0))] [(0, 1, (.const (.int .i32 (.ofNat 1))))] 1, some 198, none⟩, []⟩,
    ⟨⟨.build [(.int .i64 (.ofNat 0)), .nils, (.bool false)] [(0, 1, (.const (.int .i64 (.ofNat 1)))), (1, 1, (.slot 198))], some 199, none⟩, []⟩,
    ⟨⟨.bslice 1 [(.int .i32 (.ofNat 0))] [(0, 1, (.const (.int .i32 (.ofNat 2))))] 1, some 200, none⟩, []⟩,
    ⟨⟨.build [(.int .i64 (.ofNat 0)), .nils, (.bool false)] [(0, 1, (.const (.int .i64 (.ofNat 6)))), (1, 1, (.slot 200))], some 201, none⟩, []⟩,
    ⟨⟨.bslice 1 [(.int .i32 (.ofNat 0)), (.int .i32 (.ofNat 0))] [(0, 1, (.const (.int .i32 (.ofNat 3)))), (1, 1, (.const (.int .i32 (.ofNat 4))))] 2, some 202, none⟩, []⟩,
    ⟨⟨.build [(.int .i64 (.ofNat 0)), .nils, (.bool false)] [(0, 1, (.const (.int .i64 (.ofNat 7)))), (1, 1, (.slot 202))], some 203, none⟩, []⟩,
    ⟨⟨.bslice 1 [(.int .i32 (.ofNat 0)), (.int .i32 (.ofNat 0))] [(0, 1, (.const (.int .i32 (.negSucc 3)))), (1, 1, (.const (.int .i32 (.ofNat 5))))] 2, some 204, none⟩, []⟩,
    ⟨⟨.build [(.int .i64 (.ofNat 0)), .nils, (.bool false)] [(0, 1, (.const (.int .i64 (.ofNat 8)))), (1, 1, (.slot 204))], some 205, none⟩, []⟩,
    ⟨⟨.bslice 3 [(.int .i64 (.ofNat 0)), .nils, (.bool false), (.int .i64 (.ofNat 0)), .nils, (.bool false), (.int .i64 (.ofNat 0)), .nils, (.bool false), (.int .i64 (.ofNat 0)), .nils, (.bool false)] [(0, 3, (.slot 199)), (3, 3, (.slot 201)), (6, 3, (.slot 203)), (9, 3, (.slot 205))] 4, some 206, none⟩, []⟩,
    ⟨⟨.mv (.slot 206), some 27, none⟩, []⟩])
  (.seq (.region false [⟨⟨.mv (.slot 25), some 207, none⟩, []⟩,
    ⟨⟨.bin .eql 3 .num (.slot 207) (.const (.int .i64 (.ofNat 5))), some 208, none⟩, []⟩,
    ⟨⟨.mv (.slot 208), some 209, none⟩, []⟩,
    ⟨⟨.mv (.slot 26), some 210, some (209, true)⟩, []⟩,
    ⟨⟨.bin .eql 23 .num (.slot 210) (.const (.int .i64 (.ofNat 0))), some 211, some (209, true)⟩, []⟩,
    ⟨⟨.pick (.slot 209) (.slot 211) (.const (.bool false)), some 212, none⟩, []⟩,
    ⟨⟨.mv (.slot 212), some 213, none⟩, []⟩,
    ⟨⟨.mv (.slot 1), some 214, some (213, true)⟩, []⟩,
    ⟨⟨.call (.const (.func 14 [] [])) [(.slot 214)], some 215, some (213, true)⟩, []⟩,
    ⟨⟨.mv (.slot 27), some 216, some (213, true)⟩, []⟩,
    ⟨⟨.call (.const (.func 13 [] [])) [(.slot 215), (.slot 216)], some 217, some (213, true)⟩, []⟩,
    ⟨⟨.pick (.slot 213) (.slot 217) (.const (.bool false)), some 218, none⟩, []⟩,
    ⟨⟨.mv (.slot 218), some 28, none⟩, []⟩])
  (.seq (.region false [⟨⟨.bslice 1 [(.int .i32 (.ofNat 0)), (.int .i32 (.ofNat 0))] [(0, 1, (.const (.int .i32 (.ofNat 1)))), (1, 1, (.const (.int .i32 (.ofNat 1))))] 2, some 220, none⟩, []⟩,
    ⟨⟨.bslice 1 [(.int .i32 (.ofNat 0))] [(0, 1, (.const (.int .i32 (.negSucc 0))))] 1, some 221, none⟩, []⟩,
    ⟨⟨.bslice 1 [.nils, .nils] [(0, 1, (.slot 220)), (1, 1, (.slot 221))] 2, some 222, none⟩, []⟩,
    ⟨⟨.build [(.int .i64 (.ofNat 0)), .nils] [(0, 1, (.const (.int .i64 (.ofNat 1)))), (1, 1, (.slot 222))], some 223, none⟩, []⟩,
    ⟨⟨.call (.const (.func 4 [] [])) [(.slot 223)], some 224, none⟩, []⟩,
    ⟨⟨.mv (.slot 224), some 219, none⟩, []⟩,
    ⟨⟨.extract (.slot 219) 0, some 225, none⟩, []⟩,
    ⟨⟨.extract (.slot 219) 1, some 226, none⟩, []⟩,
    ⟨⟨.mv (.slot 225), some 29, none⟩, []⟩,
    ⟨⟨.mv (.slot 226), some 30, none⟩, []⟩])
  (.seq (.region false [⟨⟨.mv (.slot 29), some 228, none⟩, []⟩,
    ⟨⟨.call (.const (.func 11 [] [])) [(.slot 228), (.const (.int .i64 (.ofNat 5)))], some 229, none⟩, []⟩,
    ⟨⟨.mv (.slot 229), some 227, none⟩, []⟩,
    ⟨⟨.extract (.slot 227) 0, some 230, none⟩, []⟩,
    ⟨⟨.extract (.slot 227) 1, some 231, none⟩, []⟩,
    ⟨⟨.mv (.slot 230), some 31, none⟩, []⟩,
    ⟨⟨.mv (.slot 231), some 32, none⟩, []⟩])
  (.seq (.region false [⟨⟨.mv (.slot 29), some 233, none⟩, []⟩,
    ⟨⟨.call (.const (.func 11 [] [])) [(.slot 233), (.const (.int .i64 (.ofNat 5)))], some 234, none⟩, []⟩,
    ⟨⟨.mv (.slot 234), some 232, none⟩, []⟩,
    ⟨⟨.extract (.slot 232) 0, some 235, none⟩, []⟩,
    ⟨⟨.extract (.slot 232) 1, some 236, none⟩, []⟩,
    ⟨⟨.mv (.slot 235), some 33, none⟩, []⟩,
    ⟨⟨.mv (.slot 236), some 34, none⟩, []⟩])
  (.seq (.region false [⟨⟨.mv (.slot 29), some 238, none⟩, []⟩,
    ⟨⟨.call (.const (.func 15 [] [])) [(.slot 238)], some 239, none⟩, []⟩,
    ⟨⟨.mv (.slot 239), some 237, none⟩, []⟩,
    ⟨⟨.extract (.slot 237) 0, some 240, none⟩, []⟩,
    ⟨⟨.extract (.slot 237) 1, some 241, none⟩, []⟩,
    ⟨⟨.mv (.slot 240), some 35, none⟩, []⟩,
    ⟨⟨.mv (.slot 241), some 36, none⟩, []⟩])
  (.seq (.region false [⟨⟨.mv (.slot 9), some 242, none⟩, []⟩,
    ⟨⟨.mv (.slot 242), some 243, none⟩, []⟩,
    ⟨⟨.mv (.slot 24), some 244, some (243, true)⟩, []⟩,
    ⟨⟨.pick (.slot 243) (.slot 244) (.const (.bool false)), some 245, none⟩, []⟩,
    ⟨⟨.mv (.slot 245), some 246, none⟩, []⟩,
    ⟨⟨.mv (.slot 28), some 247, some (246, true)⟩, []⟩,
    ⟨⟨.pick (.slot 246) (.slot 247) (.const (.bool false)), some 248, none⟩, []⟩,
    ⟨⟨.mv (.slot 248), some 249, none⟩, []⟩,
    ⟨⟨.mv (.slot 31), some 250, some (249, true)⟩, []⟩,
    ⟨⟨.bin .eql 3 .num (.slot 250) (.const (.int .i64 (.ofNat 1))), some 251, some (249, true)⟩, []⟩,
    ⟨⟨.pick (.slot 249) (.slot 251) (.const (.bool false)), some 252, none⟩, []⟩,
    ⟨⟨.mv (.slot 252), some 253, none⟩, []⟩,
    ⟨⟨.mv (.slot 32), some 254, some (253, true)⟩, []⟩,
    ⟨⟨.bin .eql 23 .num (.slot 254) (.const (.int .i64 (.ofNat 0))), some 255, some (253, true)⟩, []⟩,
    ⟨⟨.pick (.slot 253) (.slot 255) (.const (.bool false)), some 256, none⟩, []⟩,
    ⟨⟨.mv (.slot 256), some 257, none⟩, []⟩,
    ⟨⟨.mv (.slot 33), some 258, some (257, true)⟩, []⟩,
    ⟨⟨.bin .eql 3 .num (.slot 258) (.const (.int .i64 (.ofNat 0))), some 259, some (257, true)⟩, []⟩,
    ⟨⟨.pick (.slot 257) (.slot 259) (.const (.bool false)), some 260, none⟩, []⟩,
    ⟨⟨.mv (.slot 260), some 261, none⟩, []⟩,
    ⟨⟨.mv (.slot 34), some 262, some (261, true)⟩, []⟩,
    ⟨⟨.bin .eql 23 .num (.slot 262) (.const (.int .i64 (.ofNat 0))), some 263, some (261, true)⟩, []⟩,
    ⟨⟨.pick (.slot 261) (.slot 263) (.const (.bool false)), some 264, none⟩, []⟩,
    ⟨⟨.mv (.slot 264), some 265, none⟩, []⟩,
    ⟨⟨.mv (.slot 36), some 266, some (265, true)⟩, []⟩,
    ⟨⟨.pick (.slot 265) (.slot 266) (.const (.bool false)), some 267, none⟩, []⟩,
    ⟨⟨.mv (.slot 267), some 268, none⟩, []⟩,
    ⟨⟨.mv (.slot 35), some 269, some (268, true)⟩, []⟩,
    ⟨⟨.bin .eql 2 .num (.slot 269) (.const (.int .i64 (.ofNat 3))), some 270, some (268, true)⟩, []⟩,
    ⟨⟨.pick (.slot 268) (.slot 270) (.const (.bool false)), some 271, none⟩, []⟩,
    ⟨⟨.mv (.slot 271), some 272, none⟩, []⟩,
    ⟨⟨.call (.const (.func 16 [] [])) [], some 273, some (272, true)⟩, []⟩,
    ⟨⟨.pick (.slot 272) (.slot 273) (.const (.bool false)), some 274, none⟩, []⟩,
    ⟨⟨.mv (.slot 274), some 0, none⟩, []⟩])
  .ret)))))))))))))))))))))),
  [.tmp 0]⟩
theorem xf3_ok : compFunc Tryz.prog Tryz.f3 = some xf3 := by kernel_rfl
/-- threshing/base.New -/
def xf4 : XFunc := ⟨(.seq (.region false [⟨⟨.box (.slot 0), some 1, none⟩, []⟩,
    ⟨⟨.mv (.const .nilp), some 2, none⟩, []⟩,
    ⟨⟨.mv (.const (.int .i64 (.ofNat 0))), some 3, none⟩, []⟩])
  (.seq (.seq (.region false [⟨⟨.load true 2 (.slot 1), some 8, none⟩, []⟩,
    ⟨⟨.call (.const (.func 17 [] [])) [(.slot 8)], some 9, none⟩, []⟩,
    ⟨⟨.mv (.slot 9), some 4, none⟩, []⟩])
  (.seq (.region false [⟨⟨.mv (.slot 4), some 10, none⟩, []⟩,
    ⟨⟨.bin .neq 23 .num (.slot 10) (.const (.int .i64 (.ofNat 0))), some 11, none⟩, []⟩])
  (.cond (.slot 11)
   (.seq (.region false [⟨⟨.mv (.slot 4), some 12, none⟩, []⟩,
     ⟨⟨.mv (.const .nilp), some 2, none⟩, []⟩,
     ⟨⟨.mv (.slot 12), some 3, none⟩, []⟩])
   .ret)
   .skip)))
  (.seq (.region false [⟨⟨.faddr 0 (.slot 1), some 13, none⟩, []⟩,
    ⟨⟨.load false 1 (.slot 13), some 14, none⟩, []⟩,
    ⟨⟨.mkmap .i64, some 15, none⟩, []⟩,
    ⟨⟨.mkmap .i32, some 16, none⟩, []⟩,
    ⟨⟨.mkmap .i64, some 17, none⟩, []⟩,
    ⟨⟨.build [(.int .i64 (.ofNat 0)), .nilm, .nilm, .nilm, (.int .i64 (.ofNat 0)), .nils, .nils, .nils] [(0, 1, (.slot 14)), (1, 1, (.slot 15)), (2, 1, (.slot 16)), (3, 1, (.slot 17))], some 18, none⟩, []⟩,
    ⟨⟨.box (.slot 18), some 19, none⟩, []⟩,
    ⟨⟨.mv (.slot 19), some 5, none⟩, []⟩])
  (.seq (.seq (.region false [⟨⟨.faddr 1 (.slot 1), some 20, none⟩, []⟩,
    ⟨⟨.load false 1 (.slot 20), some 21, none⟩, []⟩,
    ⟨⟨.len .slice (.slot 21), some 22, none⟩, []⟩,
    ⟨⟨.mv (.const (.int .i64 (.ofNat 0))), some 23, none⟩, []⟩])
  (.block 0 (.loop (.seq (.region false [⟨⟨.bin .lss 3 .num (.slot 23) (.slot 22), some 24, none⟩, []⟩])
   (.seq (.cond (.slot 24)
    .skip
    (.exit 0))
   (.seq (.block 1 (.seq (.region false [⟨⟨.iaddr 1 (.slot 21) (.slot 23), some 25, none⟩, []⟩,
     ⟨⟨.load false 1 (.slot 25), some 26, none⟩, []⟩,
     ⟨⟨.mv (.slot 26), some 7, none⟩, []⟩])
   (.region false [⟨⟨.mv (.slot 5), some 27, none⟩, []⟩,
     ⟨⟨.mv (.slot 7), some 28, none⟩, []⟩,
     ⟨⟨.call (.const (.func 18 [] [])) [(.slot 27), (.slot 28), (.const (.bool false))], some 29, none⟩, []⟩])))
   (.region false [⟨⟨.bin .add 3 .num (.slot 23) (.const (.int .i64 (.ofNat 1))), some 30, none⟩, []⟩,
     ⟨⟨.mv (.slot 30), some 23, none⟩, []⟩])))))))
  (.seq (.region false [⟨⟨.mv (.slot 5), some 31, none⟩, []⟩,
    ⟨⟨.mv (.slot 31), some 2, none⟩, []⟩,
    ⟨⟨.mv (.const (.int .i64 (.ofNat 0))), some 3, none⟩, []⟩])
  .ret))))),
  [.tmp 2, .tmp 3]⟩
theorem xf4_ok : compFunc Tryz.prog Tryz.f4 = some xf4 := by kernel_rfl
/-- threshing/threshinglaw20.five -/
def xf5 : XFunc := ⟨(.seq (.region false [⟨⟨.alloc [(.int .i64 (.ofNat 0)), .nils], some 0, none⟩, []⟩])
  (.seq (.region false [⟨⟨.bslice 1 [(.int .i32 (.ofNat 0))] [(0, 1, (.const (.int .i32 (.ofNat 1))))] 1, some 1, none⟩, []⟩,
    ⟨⟨.bslice 1 [(.int .i32 (.ofNat 0)), (.int .i32 (.ofNat 0))] [(0, 1, (.const (.int .i32 (.negSucc 0)))), (1, 1, (.const (.int .i32 (.ofNat 2))))] 2, some 2, none⟩, []⟩,
    ⟨⟨.bslice 1 [(.int .i32 (.ofNat 0)), (.int .i32 (.ofNat 0)), (.int .i32 (.ofNat 0))] [(0, 1, (.const (.int .i32 (.negSucc 1)))), (1, 1, (.const (.int .i32 (.ofNat 3)))), (2, 1, (.const (.int .i32 (.ofNat 4))))] 3, some 3, none⟩, []⟩,
    ⟨⟨.bslice 1 [(.int .i32 (.ofNat 0)), (.int .i32 (.ofNat 0))] [(0, 1, (.const (.int .i32 (.ofNat 2)))), (1, 1, (.const (.int .i32 (.ofNat 4))))] 2, some 4, none⟩, []⟩,
    ⟨⟨.bslice 1 [(.int .i32 (.ofNat 0)), (.int .i32 (.ofNat 0)), (.int .i32 (.ofNat 0))] [(0, 1, (.const (.int .i32 (.negSucc 3)))), (1, 1, (.const (.int .i32 (.ofNat 5)))), (2, 1, (.const (.int .i32 (.negSucc 0))))] 3, some 5, none⟩, []⟩,
    ⟨⟨.bslice 1 [.nils, .nils, .nils, .nils, .nils] [(0, 1, (.slot 1)), (1, 1, (.slot 2)), (2, 1, (.slot 3)), (3, 1, (.slot 4)), (4, 1, (.slot 5))] 5, some 6, none⟩, []⟩,
    ⟨⟨.build [(.int .i64 (.ofNat 0)), .nils] [(0, 1, (.const (.int .i64 (.ofNat 5)))), (1, 1, (.slot 6))], some 7, none⟩, []⟩,
    ⟨⟨.store 2 (.slot 0) (.slot 7), none, none⟩, []⟩])
  .ret)),
  [.cell 0 true 2]⟩
theorem xf5_ok : compFunc Tryz.prog Tryz.f5 = some xf5 := by kernel_rfl
/-- threshing/unit.Propagate -/
def xf6 : XFunc := ⟨(.seq (.region false [⟨⟨.alloc [.nils, .nils, (.int .i64 (.ofNat 0))], some 6, none⟩, []⟩,
    ⟨⟨.mv (.const (.int .i64 (.ofNat 0))), some 7, none⟩, []⟩])
  (.seq (.seq (.region false [⟨⟨.mv (.slot 0), some 25, none⟩, []⟩,
    ⟨⟨.bin .eql 22 .ptr (.slot 25) (.const .nilp), some 26, none⟩, []⟩])
  (.cond (.slot 26)
   (.seq (.region false [⟨⟨.build [.nils, .nils, (.int .i64 (.ofNat 0))] [], some 27, none⟩, []⟩,
     ⟨⟨.store 3 (.slot 6) (.slot 27), none, none⟩, []⟩,
     ⟨⟨.mv (.const (.int .i64 (.ofNat 1))), some 7, none⟩, []⟩])
   .ret)
   .skip))
  (.seq (.seq (.region false [⟨⟨.mv (.slot 1), some 28, none⟩, []⟩,
    ⟨⟨.len .slice (.slot 28), some 29, none⟩, []⟩,
    ⟨⟨.mv (.const (.int .i64 (.ofNat 0))), some 30, none⟩, []⟩])
  (.block 0 (.loop (.seq (.region false [⟨⟨.bin .lss 3 .num (.slot 30) (.slot 29), some 31, none⟩, []⟩])
   (.seq (.cond (.slot 31)
    .skip
    (.exit 0))
   (.seq (.block 1 (.seq (.region false [⟨⟨.iaddr 1 (.slot 28) (.slot 30), some 32, none⟩, []⟩,
     ⟨⟨.load false 1 (.slot 32), some 33, none⟩, []⟩,
     ⟨⟨.mv (.slot 33), some 9, none⟩, []⟩])
   (.seq (.region false [⟨⟨.mv (.slot 9), some 34, none⟩, []⟩,
     ⟨⟨.bin .eql 37 .num (.slot 34) (.const (.int .i32 (.ofNat 0))), some 35, none⟩, []⟩,
     ⟨⟨.mv (.slot 35), some 36, none⟩, []⟩,
     ⟨⟨.mv (.slot 9), some 37, some (36, false)⟩, []⟩,
     ⟨⟨.call (.const (.func 19 [] [])) [(.slot 37)], some 38, some (36, false)⟩, []⟩,
     ⟨⟨.mv (.slot 0), some 39, some (36, false)⟩, []⟩,
     ⟨⟨.call (.const (.func 20 [] [])) [(.slot 39)], some 40, some (36, false)⟩, []⟩,
     ⟨⟨.bin .gtr 3 .num (.slot 38) (.slot 40), some 41, some (36, false)⟩, []⟩,
     ⟨⟨.pick (.slot 36) (.const (.bool true)) (.slot 41), some 42, none⟩, []⟩])
   (.cond (.slot 42)
    (.seq (.region false [⟨⟨.build [.nils, .nils, (.int .i64 (.ofNat 0))] [], some 43, none⟩, []⟩,
      ⟨⟨.store 3 (.slot 6) (.slot 43), none, none⟩, []⟩,
      ⟨⟨.mv (.const (.int .i64 (.ofNat 4))), some 7, none⟩, []⟩])
    .ret)
    .skip))))
   (.region false [⟨⟨.bin .add 3 .num (.slot 30) (.const (.int .i64 (.ofNat 1))), some 44, none⟩, []⟩,
     ⟨⟨.mv (.slot 44), some 30, none⟩, []⟩])))))))
  (.seq (.seq (.region false [⟨⟨.mv (.slot 1), some 46, none⟩, []⟩,
    ⟨⟨.call (.const (.func 21 [] [])) [(.slot 46)], some 47, none⟩, []⟩,
    ⟨⟨.mv (.slot 47), some 45, none⟩, []⟩,
    ⟨⟨.extract (.slot 45) 0, some 48, none⟩, []⟩,
    ⟨⟨.extract (.slot 45) 1, some 49, none⟩, []⟩,
    ⟨⟨.mv (.slot 48), some 10, none⟩, []⟩,
    ⟨⟨.mv (.slot 49), some 11, none⟩, []⟩])
  (.seq (.region false [⟨⟨.mv (.slot 11), some 50, none⟩, []⟩])
  (.cond (.slot 50)
   (.seq (.region false [⟨⟨.build [.nils, .nils, (.int .i64 (.ofNat 0))] [], some 51, none⟩, []⟩,
     ⟨⟨.store 3 (.slot 6) (.slot 51), none, none⟩, []⟩,
     ⟨⟨.mv (.const (.int .i64 (.ofNat 2))), some 7, none⟩, []⟩])
   .ret)
   .skip)))
  (.seq (.region false [⟨⟨.mkmap .i64, some 52, none⟩, []⟩,
    ⟨⟨.mkmap .i64, some 53, none⟩, []⟩,
    ⟨⟨.mkmap .i32, some 54, none⟩, []⟩,
    ⟨⟨.mkmap .i32, some 55, none⟩, []⟩,
    ⟨⟨.build [.nilm, .nilm, .nilm, .nilm, .nils] [(0, 1, (.slot 52)), (1, 1, (.slot 53)), (2, 1, (.slot 54)), (3, 1, (.slot 55)), (4, 1, (.const .nils))], some 56, none⟩, []⟩,
    ⟨⟨.box (.slot 56), some 57, none⟩, []⟩,
    ⟨⟨.mv (.slot 57), some 12, none⟩, []⟩])
  (.seq (.seq (.region false [⟨⟨.mv (.slot 0), some 58, none⟩, []⟩,
    ⟨⟨.call (.const (.func 14 [] [])) [(.slot 58)], some 59, none⟩, []⟩,
    ⟨⟨.len .slice (.slot 59), some 60, none⟩, []⟩,
    ⟨⟨.mv (.const (.int .i64 (.ofNat 0))), some 61, none⟩, []⟩])
  (.block 2 (.loop (.seq (.region false [⟨⟨.bin .lss 3 .num (.slot 61) (.slot 60), some 62, none⟩, []⟩])
   (.seq (.cond (.slot 62)
    .skip
    (.exit 2))
   (.seq (.block 3 (.seq (.region false [⟨⟨.iaddr 3 (.slot 59) (.slot 61), some 63, none⟩, []⟩,
     ⟨⟨.load true 3 (.slot 63), some 64, none⟩, []⟩,
     ⟨⟨.alloc [(.int .i64 (.ofNat 0)), .nils, (.bool false)], some 14, none⟩, []⟩,
     ⟨⟨.store 3 (.slot 14) (.slot 64), none, none⟩, []⟩])
   (.seq (.seq (.region false [⟨⟨.faddr 0 (.slot 14), some 65, none⟩, []⟩,
     ⟨⟨.load false 1 (.slot 65), some 66, none⟩, []⟩,
     ⟨⟨.mv (.slot 2), some 67, none⟩, []⟩,
     ⟨⟨.bin .eql 2 .num (.slot 66) (.slot 67), some 68, none⟩, []⟩])
   (.cond (.slot 68)
    (.exit 3)
    .skip))
   (.seq (.region false [⟨⟨.faddr 1 (.slot 14), some 70, none⟩, []⟩,
     ⟨⟨.load false 1 (.slot 70), some 71, none⟩, []⟩,
     ⟨⟨.call (.const (.func 21 [] [])) [(.slot 71)], some 72, none⟩, []⟩,
     ⟨⟨.mv (.slot 72), some 69, none⟩, []⟩,
     ⟨⟨.extract (.slot 69) 0, some 73, none⟩, []⟩,
     ⟨⟨.extract (.slot 69) 1, some 74, none⟩, []⟩,
     ⟨⟨.mv (.slot 73), some 15, none⟩, []⟩,
     ⟨⟨.mv (.slot 74), some 16, none⟩, []⟩])
   (.seq (.region true [⟨⟨.mv (.slot 12), some 75, none⟩, []⟩,
     ⟨⟨.nilCheck (.slot 75), some 76, none⟩, []⟩,
     ⟨⟨.faddr 0 (.slot 76), some 77, none⟩, []⟩,
     ⟨⟨.load false 1 (.slot 77), some 78, none⟩, []⟩,
     ⟨⟨.faddr 0 (.slot 14), some 79, none⟩, []⟩,
     ⟨⟨.load false 1 (.slot 79), some 80, none⟩, []⟩,
     ⟨⟨.mv (.slot 12), some 81, none⟩, []⟩,
     ⟨⟨.nilCheck (.slot 81), some 82, none⟩, []⟩,
     ⟨⟨.faddr 1 (.slot 82), some 83, none⟩, []⟩,
     ⟨⟨.load false 1 (.slot 83), some 84, none⟩, []⟩,
     ⟨⟨.faddr 0 (.slot 14), some 85, none⟩, []⟩,
     ⟨⟨.load false 1 (.slot 85), some 86, none⟩, []⟩,
     ⟨⟨.mv (.slot 15), some 87, none⟩, []⟩,
     ⟨⟨.mv (.slot 15), some 88, none⟩, []⟩,
     ⟨⟨.len .slice (.slot 88), some 89, none⟩, []⟩,
     ⟨⟨.mentry .nils (.slot 78) (.slot 80), some 90, none⟩, [⟨.load false 1 (.slot 85), some 86, none⟩, ⟨.len .slice (.slot 88), some 89, none⟩]⟩,
     ⟨⟨.extract (.slot 90) 1, some 91, none⟩, []⟩,
     ⟨⟨.estore (.slot 78) (.slot 91) (.slot 87), none, none⟩, [⟨.load false 1 (.slot 85), some 86, none⟩, ⟨.len .slice (.slot 88), some 89, none⟩]⟩,
     ⟨⟨.mentry (.int .i64 (.ofNat 0)) (.slot 84) (.slot 86), some 92, none⟩, [⟨.len .slice (.slot 88), some 89, none⟩]⟩,
     ⟨⟨.extract (.slot 92) 1, some 93, none⟩, []⟩,
     ⟨⟨.estore (.slot 84) (.slot 93) (.slot 89), none, none⟩, []⟩])
   (.seq (.seq (.region false [⟨⟨.mv (.slot 15), some 94, none⟩, []⟩,
     ⟨⟨.len .slice (.slot 94), some 95, none⟩, []⟩,
     ⟨⟨.mv (.const (.int .i64 (.ofNat 0))), some 96, none⟩, []⟩])
   (.block 4 (.loop (.seq (.region false [⟨⟨.bin .lss 3 .num (.slot 96) (.slot 95), some 97, none⟩, []⟩])
    (.seq (.cond (.slot 97)
     .skip
     (.exit 4))
    (.seq (.block 5 (.seq (.region false [⟨⟨.iaddr 1 (.slot 94) (.slot 96), some 98, none⟩, []⟩,
      ⟨⟨.load false 1 (.slot 98), some 99, none⟩, []⟩,
      ⟨⟨.mv (.slot 99), some 18, none⟩, []⟩])
    (.region true [⟨⟨.mv (.slot 12), some 100, none⟩, []⟩,
      ⟨⟨.nilCheck (.slot 100), some 101, none⟩, []⟩,
      ⟨⟨.faddr 2 (.slot 101), some 102, none⟩, []⟩,
      ⟨⟨.load false 1 (.slot 102), some 103, none⟩, []⟩,
      ⟨⟨.mv (.slot 18), some 104, none⟩, []⟩,
      ⟨⟨.mv (.slot 12), some 105, none⟩, []⟩,
      ⟨⟨.nilCheck (.slot 105), some 106, none⟩, []⟩,
      ⟨⟨.faddr 2 (.slot 106), some 107, none⟩, []⟩,
      ⟨⟨.load false 1 (.slot 107), some 108, none⟩, []⟩,
      ⟨⟨.mv (.slot 18), some 109, none⟩, []⟩,
      ⟨⟨.lookup .i32 .nils (.slot 108) (.slot 109) false, some 110, none⟩, []⟩,
      ⟨⟨.faddr 0 (.slot 14), some 111, none⟩, []⟩,
      ⟨⟨.load false 1 (.slot 111), some 112, none⟩, []⟩,
      ⟨⟨.bslice 1 [(.int .i64 (.ofNat 0))] [(0, 1, (.slot 112))] 1, some 113, none⟩, [⟨.load false 1 (.slot 102), some 103, none⟩, ⟨.load false 1 (.slot 107), some 108, none⟩, ⟨.lookup .i32 .nils (.slot 108) (.slot 109) false, some 110, none⟩]⟩,
      ⟨⟨.append 1 8 (.slot 110) (.slot 113), some 114, none⟩, [⟨.load false 1 (.slot 102), some 103, none⟩]⟩,
      ⟨⟨.mapup .i32 (.slot 103) (.slot 104) (.slot 114), none, none⟩, []⟩])))
    (.region false [⟨⟨.bin .add 3 .num (.slot 96) (.const (.int .i64 (.ofNat 1))), some 115, none⟩, []⟩,
      ⟨⟨.mv (.slot 115), some 96, none⟩, []⟩])))))))
   (.seq (.region false [⟨⟨.mv (.slot 15), some 116, none⟩, []⟩,
     ⟨⟨.len .slice (.slot 116), some 117, none⟩, []⟩,
     ⟨⟨.bin .leq 3 .num (.slot 117) (.const (.int .i64 (.ofNat 1))), some 118, none⟩, []⟩])
   (.cond (.slot 118)
    (.region true [⟨⟨.mv (.slot 12), some 119, none⟩, []⟩,
      ⟨⟨.mv (.slot 12), some 120, none⟩, []⟩,
      ⟨⟨.nilCheck (.slot 120), some 121, none⟩, []⟩,
      ⟨⟨.faddr 4 (.slot 121), some 122, none⟩, []⟩,
      ⟨⟨.load false 1 (.slot 122), some 123, none⟩, []⟩,
      ⟨⟨.faddr 0 (.slot 14), some 124, none⟩, []⟩,
      ⟨⟨.load false 1 (.slot 124), some 125, none⟩, []⟩,
      ⟨⟨.bslice 1 [(.int .i64 (.ofNat 0))] [(0, 1, (.slot 125))] 1, some 126, none⟩, [⟨.load false 1 (.slot 122), some 123, none⟩]⟩,
      ⟨⟨.append 1 8 (.slot 123) (.slot 126), some 127, none⟩, []⟩,
      ⟨⟨.nilCheck (.slot 119), some 128, none⟩, []⟩,
      ⟨⟨.faddr 4 (.slot 128), some 129, none⟩, []⟩,
      ⟨⟨.store 1 (.slot 129) (.slot 127), none, none⟩, []⟩])
    .skip))))))))
   (.region false [⟨⟨.bin .add 3 .num (.slot 61) (.const (.int .i64 (.ofNat 1))), some 130, none⟩, []⟩,
     ⟨⟨.mv (.slot 130), some 61, none⟩, []⟩])))))))
  (.seq (.region false [⟨⟨.mv (.slot 12), some 131, none⟩, []⟩,
    ⟨⟨.nilCheck (.slot 131), some 132, none⟩, []⟩,
    ⟨⟨.faddr 4 (.slot 132), some 133, none⟩, []⟩,
    ⟨⟨.mkif 76 (.slot 133), some 134, none⟩, []⟩,
    ⟨⟨.call (.const (.func 22 [] [])) [(.slot 134)], some 135, none⟩, []⟩])
  (.seq (.region false [⟨⟨.alloc [.nils, .nils, (.int .i64 (.ofNat 0))], some 19, none⟩, []⟩])
  (.seq (.seq (.region false [⟨⟨.mv (.slot 1), some 136, none⟩, []⟩,
    ⟨⟨.len .slice (.slot 136), some 137, none⟩, []⟩,
    ⟨⟨.mv (.const (.int .i64 (.ofNat 0))), some 138, none⟩, []⟩])
  (.block 6 (.loop (.seq (.region false [⟨⟨.bin .lss 3 .num (.slot 138) (.slot 137), some 139, none⟩, []⟩])
   (.seq (.cond (.slot 139)
    .skip
    (.exit 6))
   (.seq (.block 7 (.seq (.region false [⟨⟨.iaddr 1 (.slot 136) (.slot 138), some 140, none⟩, []⟩,
     ⟨⟨.load false 1 (.slot 140), some 141, none⟩, []⟩,
     ⟨⟨.mv (.slot 141), some 21, none⟩, []⟩])
   (.seq (.region false [⟨⟨.mv (.slot 12), some 142, none⟩, []⟩,
     ⟨⟨.nilCheck (.slot 142), some 143, none⟩, []⟩,
     ⟨⟨.faddr 3 (.slot 143), some 144, none⟩, []⟩,
     ⟨⟨.load false 1 (.slot 144), some 145, none⟩, []⟩,
     ⟨⟨.mv (.slot 21), some 146, none⟩, []⟩,
     ⟨⟨.lookup .i32 (.bool false) (.slot 145) (.slot 146) false, some 147, none⟩, []⟩,
     ⟨⟨.un .not (.slot 147), some 148, none⟩, []⟩])
   (.cond (.slot 148)
    (.seq (.region false [⟨⟨.faddr 0 (.slot 19), some 149, none⟩, []⟩,
      ⟨⟨.load false 1 (.slot 149), some 150, none⟩, []⟩,
      ⟨⟨.mv (.slot 21), some 151, none⟩, []⟩,
      ⟨⟨.bslice 1 [(.int .i32 (.ofNat 0))] [(0, 1, (.slot 151))] 1, some 152, none⟩, []⟩,
      ⟨⟨.append 1 4 (.slot 150) (.slot 152), some 153, none⟩, []⟩,
      ⟨⟨.faddr 0 (.slot 19), some 154, none⟩, []⟩,
      ⟨⟨.store 1 (.slot 154) (.slot 153), none, none⟩, []⟩])
    (.region false [⟨⟨.mv (.slot 12), some 155, none⟩, []⟩,
      ⟨⟨.mv (.slot 21), some 156, none⟩, []⟩,
      ⟨⟨.call (.const (.func 23 [] [])) [(.slot 155), (.slot 156)], some 157, none⟩, []⟩]))
    .skip))))
   (.region false [⟨⟨.bin .add 3 .num (.slot 138) (.const (.int .i64 (.ofNat 1))), some 158, none⟩, []⟩,
     ⟨⟨.mv (.slot 158), some 138, none⟩, []⟩])))))))
  (.block 8 (.loop (.block 9 (.seq (.region false [⟨⟨.mv (.slot 12), some 160, none⟩, []⟩,
     ⟨⟨.call (.const (.func 24 [] [])) [(.slot 160)], some 161, none⟩, []⟩,
     ⟨⟨.mv (.slot 161), some 159, none⟩, []⟩,
     ⟨⟨.extract (.slot 159) 0, some 162, none⟩, []⟩,
     ⟨⟨.extract (.slot 159) 1, some 163, none⟩, []⟩,
     ⟨⟨.extract (.slot 159) 2, some 164, none⟩, []⟩,
     ⟨⟨.mv (.slot 162), some 22, none⟩, []⟩,
     ⟨⟨.mv (.slot 163), some 23, none⟩, []⟩,
     ⟨⟨.mv (.slot 164), some 24, none⟩, []⟩])
   (.seq (.block 10 (.seq (.region false [⟨⟨.mv (.slot 24), some 166, none⟩, []⟩,
     ⟨⟨.un .not (.slot 166), some 167, none⟩, []⟩,
     ⟨⟨.mv (.slot 167), some 165, none⟩, []⟩])
   (.cond (.slot 165)
    (.seq (.region false [⟨⟨.load true 3 (.slot 19), some 168, none⟩, []⟩,
      ⟨⟨.store 3 (.slot 6) (.slot 168), none, none⟩, []⟩,
      ⟨⟨.mv (.const (.int .i64 (.ofNat 0))), some 7, none⟩, []⟩])
    .ret)
    (.seq (.region false [⟨⟨.mv (.slot 23), some 170, none⟩, []⟩,
      ⟨⟨.bin .eql 37 .num (.slot 170) (.const (.int .i32 (.ofNat 0))), some 171, none⟩, []⟩,
      ⟨⟨.mv (.slot 171), some 169, none⟩, []⟩])
    (.cond (.slot 169)
     (.seq (.region false [⟨⟨.mv (.slot 22), some 172, none⟩, []⟩,
       ⟨⟨.faddr 2 (.slot 19), some 173, none⟩, []⟩,
       ⟨⟨.store 1 (.slot 173) (.slot 172), none, none⟩, []⟩])
     (.seq (.region false [⟨⟨.load true 3 (.slot 19), some 174, none⟩, []⟩,
       ⟨⟨.store 3 (.slot 6) (.slot 174), none, none⟩, []⟩,
       ⟨⟨.mv (.const (.int .i64 (.ofNat 0))), some 7, none⟩, []⟩])
     .ret))
     .skip)))))
   (.seq (.region true [⟨⟨.faddr 0 (.slot 19), some 175, none⟩, []⟩,
     ⟨⟨.load false 1 (.slot 175), some 176, none⟩, []⟩,
     ⟨⟨.mv (.slot 23), some 177, none⟩, []⟩,
     ⟨⟨.faddr 1 (.slot 19), some 180, none⟩, []⟩,
     ⟨⟨.load false 1 (.slot 180), some 181, none⟩, []⟩,
     ⟨⟨.mv (.slot 22), some 182, none⟩, []⟩,
     ⟨⟨.bslice 1 [(.int .i32 (.ofNat 0))] [(0, 1, (.slot 177))] 1, some 178, none⟩, [⟨.load false 1 (.slot 175), some 176, none⟩, ⟨.load false 1 (.slot 180), some 181, none⟩]⟩,
     ⟨⟨.append 1 4 (.slot 176) (.slot 178), some 179, none⟩, [⟨.load false 1 (.slot 180), some 181, none⟩]⟩,
     ⟨⟨.faddr 0 (.slot 19), some 185, none⟩, []⟩,
     ⟨⟨.bslice 1 [(.int .i64 (.ofNat 0))] [(0, 1, (.slot 182))] 1, some 183, none⟩, [⟨.load false 1 (.slot 175), some 176, none⟩, ⟨.load false 1 (.slot 180), some 181, none⟩]⟩,
     ⟨⟨.append 1 8 (.slot 181) (.slot 183), some 184, none⟩, []⟩,
     ⟨⟨.store 1 (.slot 185) (.slot 179), none, none⟩, []⟩,
     ⟨⟨.faddr 1 (.slot 19), some 186, none⟩, []⟩,
     ⟨⟨.store 1 (.slot 186) (.slot 184), none, none⟩, []⟩])
   (.region false [⟨⟨.mv (.slot 12), some 187, none⟩, []⟩,
     ⟨⟨.mv (.slot 23), some 188, none⟩, []⟩,
     ⟨⟨.call (.const (.func 23 [] [])) [(.slot 187), (.slot 188)], some 189, none⟩, []⟩])))))))))))))))),
  [.cell 6 true 3, .tmp 7]⟩
theorem xf6_ok : compFunc Tryz.prog Tryz.f6 = some xf6 := by kernel_rfl
/-- threshing/threshingkit.SameClause -/
def xf7 : XFunc := ⟨(.seq (.region false [⟨⟨.mv (.const (.bool false)), some 4, none⟩, []⟩])
  (.seq (.seq (.region false [⟨⟨.mv (.slot 0), some 6, none⟩, []⟩,
    ⟨⟨.len .slice (.slot 6), some 7, none⟩, []⟩,
    ⟨⟨.mv (.slot 1), some 8, none⟩, []⟩,
    ⟨⟨.len .slice (.slot 8), some 9, none⟩, []⟩,
    ⟨⟨.bin .neq 3 .num (.slot 7) (.slot 9), some 10, none⟩, []⟩])
  (.cond (.slot 10)
   (.seq (.region false [⟨⟨.mv (.const (.bool false)), some 4, none⟩, []⟩])
   .ret)
   .skip))
  (.seq (.seq (.region false [⟨⟨.mv (.const (.int .i64 (.ofNat 0))), some 5, none⟩, []⟩])
  (.block 0 (.loop (.seq (.seq (.region false [⟨⟨.mv (.slot 5), some 11, none⟩, []⟩,
     ⟨⟨.mv (.slot 0), some 12, none⟩, []⟩,
     ⟨⟨.len .slice (.slot 12), some 13, none⟩, []⟩,
     ⟨⟨.bin .lss 3 .num (.slot 11) (.slot 13), some 14, none⟩, []⟩])
   (.cond (.slot 14)
    .skip
    (.exit 0)))
   (.seq (.block 1 (.seq (.region true [⟨⟨.mv (.slot 0), some 17, none⟩, []⟩,
     ⟨⟨.mv (.slot 5), some 18, none⟩, []⟩,
     ⟨⟨.iaddr 1 (.slot 17) (.slot 18), some 19, none⟩, []⟩,
     ⟨⟨.load false 1 (.slot 19), some 20, none⟩, []⟩,
     ⟨⟨.mv (.slot 1), some 21, none⟩, []⟩,
     ⟨⟨.mv (.slot 5), some 22, none⟩, []⟩,
     ⟨⟨.iaddr 1 (.slot 21) (.slot 22), some 23, none⟩, []⟩,
     ⟨⟨.load false 1 (.slot 23), some 24, none⟩, []⟩,
     ⟨⟨.bin .neq 37 .num (.slot 20) (.slot 24), some 25, none⟩, []⟩])
   (.cond (.slot 25)
    (.seq (.region false [⟨⟨.mv (.const (.bool false)), some 4, none⟩, []⟩])
    .ret)
    .skip)))
   (.region false [⟨⟨.mv (.slot 5), some 15, none⟩, []⟩,
     ⟨⟨.bin .add 3 .num (.slot 15) (.const (.int .i64 (.ofNat 1))), some 16, none⟩, []⟩,
     ⟨⟨.mv (.slot 16), some 5, none⟩, []⟩]))))))
  (.seq (.region false [⟨⟨.mv (.const (.bool true)), some 4, none⟩, []⟩])
  .ret)))),
  [.tmp 4]⟩
theorem xf7_ok : compFunc Tryz.prog Tryz.f7 = some xf7 := by kernel_rfl
/-- threshing/threshingkit.SameIDs -/
def xf8 : XFunc := ⟨(.seq (.region false [⟨⟨.mv (.const (.bool false)), some 4, none⟩, []⟩])
  (.seq (.seq (.region false [⟨⟨.mv (.slot 0), some 6, none⟩, []⟩,
    ⟨⟨.len .slice (.slot 6), some 7, none⟩, []⟩,
    ⟨⟨.mv (.slot 1), some 8, none⟩, []⟩,
    ⟨⟨.len .slice (.slot 8), some 9, none⟩, []⟩,
    ⟨⟨.bin .neq 3 .num (.slot 7) (.slot 9), some 10, none⟩, []⟩])
  (.cond (.slot 10)
   (.seq (.region false [⟨⟨.mv (.const (.bool false)), some 4, none⟩, []⟩])
   .ret)
   .skip))
  (.seq (.seq (.region false [⟨⟨.mv (.const (.int .i64 (.ofNat 0))), some 5, none⟩, []⟩])
  (.block 0 (.loop (.seq (.seq (.region false [⟨⟨.mv (.slot 5), some 11, none⟩, []⟩,
     ⟨⟨.mv (.slot 0), some 12, none⟩, []⟩,
     ⟨⟨.len .slice (.slot 12), some 13, none⟩, []⟩,
     ⟨⟨.bin .lss 3 .num (.slot 11) (.slot 13), some 14, none⟩, []⟩])
   (.cond (.slot 14)
    .skip
    (.exit 0)))
   (.seq (.block 1 (.seq (.region true [⟨⟨.mv (.slot 0), some 17, none⟩, []⟩,
     ⟨⟨.mv (.slot 5), some 18, none⟩, []⟩,
     ⟨⟨.iaddr 1 (.slot 17) (.slot 18), some 19, none⟩, []⟩,
     ⟨⟨.load false 1 (.slot 19), some 20, none⟩, []⟩,
     ⟨⟨.mv (.slot 1), some 21, none⟩, []⟩,
     ⟨⟨.mv (.slot 5), some 22, none⟩, []⟩,
     ⟨⟨.iaddr 1 (.slot 21) (.slot 22), some 23, none⟩, []⟩,
     ⟨⟨.load false 1 (.slot 23), some 24, none⟩, []⟩,
     ⟨⟨.bin .neq 2 .num (.slot 20) (.slot 24), some 25, none⟩, []⟩])
   (.cond (.slot 25)
    (.seq (.region false [⟨⟨.mv (.const (.bool false)), some 4, none⟩, []⟩])
    .ret)
    .skip)))
   (.region false [⟨⟨.mv (.slot 5), some 15, none⟩, []⟩,
     ⟨⟨.bin .add 3 .num (.slot 15) (.const (.int .i64 (.ofNat 1))), some 16, none⟩, []⟩,
     ⟨⟨.mv (.slot 16), some 5, none⟩, []⟩]))))))
  (.seq (.region false [⟨⟨.mv (.const (.bool true)), some 4, none⟩, []⟩])
  .ret)))),
  [.tmp 4]⟩
theorem xf8_ok : compFunc Tryz.prog Tryz.f8 = some xf8 := by kernel_rfl
/-- (threshing/unit.Trail).Upto -/
def xf9 : XFunc := ⟨(.seq (.region false [⟨⟨.box (.slot 0), some 2, none⟩, []⟩,
    ⟨⟨.mv (.const .nils), some 4, none⟩, []⟩])
  (.seq (.region false [⟨⟨.faddr 0 (.slot 2), some 7, none⟩, []⟩,
    ⟨⟨.load false 1 (.slot 7), some 8, none⟩, []⟩,
    ⟨⟨.len .slice (.slot 8), some 9, none⟩, []⟩,
    ⟨⟨.faddr 1 (.slot 2), some 10, none⟩, []⟩,
    ⟨⟨.load false 1 (.slot 10), some 11, none⟩, []⟩,
    ⟨⟨.len .slice (.slot 11), some 12, none⟩, []⟩,
    ⟨⟨.bin .sub 3 .num (.slot 9) (.slot 12), some 13, none⟩, []⟩,
    ⟨⟨.mv (.slot 13), some 5, none⟩, []⟩])
  (.seq (.region false [⟨⟨.faddr 0 (.slot 2), some 14, none⟩, []⟩,
    ⟨⟨.load false 1 (.slot 14), some 15, none⟩, []⟩,
    ⟨⟨.mv (.slot 1), some 16, none⟩, []⟩,
    ⟨⟨.call (.const (.func 25 [] [])) [(.slot 15), (.slot 16)], some 17, none⟩, []⟩,
    ⟨⟨.mv (.slot 17), some 6, none⟩, []⟩])
  (.seq (.seq (.region false [⟨⟨.mv (.slot 6), some 18, none⟩, []⟩,
    ⟨⟨.mv (.slot 5), some 19, none⟩, []⟩,
    ⟨⟨.bin .lss 3 .num (.slot 18) (.slot 19), some 20, none⟩, []⟩])
  (.cond (.slot 20)
   (.seq (.region false [⟨⟨.mv (.const .nils), some 4, none⟩, []⟩])
   .ret)
   .skip))
  (.seq (.region false [⟨⟨.faddr 1 (.slot 2), some 21, none⟩, []⟩,
    ⟨⟨.load false 1 (.slot 21), some 22, none⟩, []⟩,
    ⟨⟨.mv (.slot 6), some 23, none⟩, []⟩,
    ⟨⟨.mv (.slot 5), some 24, none⟩, []⟩,
    ⟨⟨.bin .sub 3 .num (.slot 23) (.slot 24), some 25, none⟩, []⟩,
    ⟨⟨.bin .add 3 .num (.slot 25) (.const (.int .i64 (.ofNat 1))), some 26, none⟩, []⟩,
    ⟨⟨.slc 1 (.slot 22) none (some (.slot 26)) none, some 27, none⟩, []⟩,
    ⟨⟨.call (.const (.func 26 [] [])) [(.slot 27)], some 28, none⟩, []⟩,
    ⟨⟨.mv (.slot 28), some 4, none⟩, []⟩])
  .ret))))),
  [.tmp 4]⟩
theorem xf9_ok : compFunc Tryz.prog Tryz.f9 = some xf9 := by kernel_rfl
/-- (threshing/unit.Trail).Hints -/
def xf10 : XFunc := ⟨(.seq (.region false [⟨⟨.box (.slot 0), some 1, none⟩, []⟩,
    ⟨⟨.mv (.const .nils), some 2, none⟩, []⟩])
  (.seq (.region false [⟨⟨.faddr 1 (.slot 1), some 4, none⟩, []⟩,
    ⟨⟨.load false 1 (.slot 4), some 5, none⟩, []⟩,
    ⟨⟨.call (.const (.func 26 [] [])) [(.slot 5)], some 6, none⟩, []⟩,
    ⟨⟨.mv (.slot 6), some 3, none⟩, []⟩])
  (.seq (.seq (.region false [⟨⟨.faddr 2 (.slot 1), some 7, none⟩, []⟩,
    ⟨⟨.load false 1 (.slot 7), some 8, none⟩, []⟩,
    ⟨⟨.bin .neq 2 .num (.slot 8) (.const (.int .i64 (.ofNat 0))), some 9, none⟩, []⟩])
  (.cond (.slot 9)
   (.region false [⟨⟨.mv (.slot 3), some 10, none⟩, []⟩,
     ⟨⟨.faddr 2 (.slot 1), some 11, none⟩, []⟩,
     ⟨⟨.load false 1 (.slot 11), some 12, none⟩, []⟩,
     ⟨⟨.bslice 1 [(.int .i64 (.ofNat 0))] [(0, 1, (.slot 12))] 1, some 13, none⟩, []⟩,
     ⟨⟨.append 1 8 (.slot 10) (.slot 13), some 14, none⟩, []⟩,
     ⟨⟨.mv (.slot 14), some 3, none⟩, []⟩])
   .skip))
  (.seq (.region false [⟨⟨.mv (.slot 3), some 15, none⟩, []⟩,
    ⟨⟨.mv (.slot 15), some 2, none⟩, []⟩])
  .ret)))),
  [.tmp 2]⟩
theorem xf10_ok : compFunc Tryz.prog Tryz.f10 = some xf10 := by kernel_rfl
/-- threshing/unit.Units -/
def xf11 : XFunc := ⟨(.seq (.region false [⟨⟨.mv (.const (.int .i64 (.ofNat 0))), some 4, none⟩, []⟩,
    ⟨⟨.mv (.const (.int .i64 (.ofNat 0))), some 5, none⟩, []⟩])
  (.seq (.block 0 (.seq (.region false [⟨⟨.mv (.slot 0), some 25, none⟩, []⟩,
    ⟨⟨.bin .eql 22 .ptr (.slot 25) (.const .nilp), some 26, none⟩, []⟩,
    ⟨⟨.mv (.slot 26), some 24, none⟩, []⟩])
  (.cond (.slot 24)
   (.seq (.region false [⟨⟨.mv (.const (.int .i64 (.ofNat 0))), some 4, none⟩, []⟩,
     ⟨⟨.mv (.const (.int .i64 (.ofNat 1))), some 5, none⟩, []⟩])
   .ret)
   (.seq (.region false [⟨⟨.mv (.slot 1), some 28, none⟩, []⟩,
     ⟨⟨.bin .lss 3 .num (.slot 28) (.const (.int .i64 (.ofNat 0))), some 29, none⟩, []⟩,
     ⟨⟨.mv (.slot 29), some 27, none⟩, []⟩])
   (.cond (.slot 27)
    (.seq (.region false [⟨⟨.mv (.const (.int .i64 (.ofNat 0))), some 4, none⟩, []⟩,
      ⟨⟨.mv (.const (.int .i64 (.ofNat 2))), some 5, none⟩, []⟩])
    .ret)
    .skip)))))
  (.seq (.region false [⟨⟨.mv (.slot 0), some 31, none⟩, []⟩,
    ⟨⟨.call (.const (.func 6 [] [])) [(.slot 31), (.const .nils), (.const (.int .i64 (.ofNat 0)))], some 32, none⟩, []⟩,
    ⟨⟨.mv (.slot 32), some 30, none⟩, []⟩,
    ⟨⟨.extract (.slot 30) 0, some 33, none⟩, []⟩,
    ⟨⟨.extract (.slot 30) 1, some 34, none⟩, []⟩,
    ⟨⟨.alloc [.nils, .nils, (.int .i64 (.ofNat 0))], some 6, none⟩, []⟩,
    ⟨⟨.store 3 (.slot 6) (.slot 33), none, none⟩, []⟩,
    ⟨⟨.mv (.slot 34), some 7, none⟩, []⟩])
  (.seq (.seq (.region false [⟨⟨.mv (.slot 7), some 35, none⟩, []⟩,
    ⟨⟨.bin .neq 23 .num (.slot 35) (.const (.int .i64 (.ofNat 0))), some 36, none⟩, []⟩])
  (.cond (.slot 36)
   (.seq (.region false [⟨⟨.mv (.slot 7), some 37, none⟩, []⟩,
     ⟨⟨.mv (.const (.int .i64 (.ofNat 0))), some 4, none⟩, []⟩,
     ⟨⟨.mv (.slot 37), some 5, none⟩, []⟩])
   .ret)
   .skip))
  (.seq (.seq (.region false [⟨⟨.faddr 2 (.slot 6), some 38, none⟩, []⟩,
    ⟨⟨.load false 1 (.slot 38), some 39, none⟩, []⟩,
    ⟨⟨.bin .neq 2 .num (.slot 39) (.const (.int .i64 (.ofNat 0))), some 40, none⟩, []⟩])
  (.cond (.slot 40)
   (.seq (.seq (.region false [⟨⟨.mv (.slot 0), some 42, none⟩, []⟩,
     ⟨⟨.call (.const (.func 15 [] [])) [(.slot 42)], some 43, none⟩, []⟩,
     ⟨⟨.mv (.slot 43), some 41, none⟩, []⟩,
     ⟨⟨.extract (.slot 41) 0, some 44, none⟩, []⟩,
     ⟨⟨.extract (.slot 41) 1, some 45, none⟩, []⟩,
     ⟨⟨.mv (.slot 44), some 8, none⟩, []⟩,
     ⟨⟨.mv (.slot 45), some 9, none⟩, []⟩])
   (.seq (.region false [⟨⟨.mv (.slot 9), some 46, none⟩, []⟩,
     ⟨⟨.mv (.slot 46), some 47, none⟩, []⟩,
     ⟨⟨.mv (.slot 1), some 48, some (47, false)⟩, []⟩,
     ⟨⟨.bin .eql 3 .num (.slot 48) (.const (.int .i64 (.ofNat 0))), some 49, some (47, false)⟩, []⟩,
     ⟨⟨.pick (.slot 47) (.const (.bool true)) (.slot 49), some 50, none⟩, []⟩])
   (.cond (.slot 50)
    (.seq (.region false [⟨⟨.mv (.const (.int .i64 (.ofNat 0))), some 4, none⟩, []⟩,
      ⟨⟨.mv (.const (.int .i64 (.ofNat 0))), some 5, none⟩, []⟩])
    .ret)
    .skip)))
   (.seq (.seq (.region false [⟨⟨.mv (.slot 0), some 52, none⟩, []⟩,
     ⟨⟨.load true 3 (.slot 6), some 53, none⟩, []⟩,
     ⟨⟨.call (.const (.func 10 [] [])) [(.slot 53)], some 54, none⟩, []⟩,
     ⟨⟨.call (.const (.func 27 [] [])) [(.slot 52), (.const .nils), (.slot 54), (.const (.bool false))], some 55, none⟩, []⟩,
     ⟨⟨.mv (.slot 55), some 51, none⟩, []⟩,
     ⟨⟨.extract (.slot 51) 0, some 56, none⟩, []⟩,
     ⟨⟨.extract (.slot 51) 1, some 57, none⟩, []⟩,
     ⟨⟨.mv (.slot 56), some 10, none⟩, []⟩,
     ⟨⟨.mv (.slot 57), some 11, none⟩, []⟩])
   (.seq (.region false [⟨⟨.mv (.slot 11), some 58, none⟩, []⟩,
     ⟨⟨.bin .neq 23 .num (.slot 58) (.const (.int .i64 (.ofNat 0))), some 59, none⟩, []⟩])
   (.cond (.slot 59)
    (.seq (.region false [⟨⟨.mv (.slot 11), some 60, none⟩, []⟩,
      ⟨⟨.mv (.const (.int .i64 (.ofNat 0))), some 4, none⟩, []⟩,
      ⟨⟨.mv (.slot 60), some 5, none⟩, []⟩])
    .ret)
    .skip)))
   (.seq (.region false [⟨⟨.mv (.const (.int .i64 (.ofNat 1))), some 4, none⟩, []⟩,
     ⟨⟨.mv (.const (.int .i64 (.ofNat 0))), some 5, none⟩, []⟩])
   .ret)))
   .skip))
  (.seq (.region false [⟨⟨.mv (.slot 0), some 61, none⟩, []⟩,
    ⟨⟨.mkmap .i32, some 62, none⟩, []⟩,
    ⟨⟨.mkmap .i32, some 63, none⟩, []⟩,
    ⟨⟨.build [.nilp, .nilm, .nilm] [(0, 1, (.slot 61)), (1, 1, (.slot 62)), (2, 1, (.slot 63))], some 64, none⟩, []⟩,
    ⟨⟨.box (.slot 64), some 65, none⟩, []⟩,
    ⟨⟨.mv (.slot 65), some 12, none⟩, []⟩])
  (.seq (.region false [⟨⟨.mv (.slot 0), some 66, none⟩, []⟩,
    ⟨⟨.call (.const (.func 14 [] [])) [(.slot 66)], some 67, none⟩, []⟩,
    ⟨⟨.mv (.slot 67), some 13, none⟩, []⟩,
    ⟨⟨.mv (.const (.int .i64 (.ofNat 0))), some 14, none⟩, []⟩])
  (.seq (.region false [⟨⟨.load true 3 (.slot 6), some 68, none⟩, []⟩,
    ⟨⟨.mkfunc 9 [(.slot 68)] [], some 69, none⟩, []⟩,
    ⟨⟨.mv (.slot 69), some 15, none⟩, []⟩])
  (.seq (.seq (.region false [⟨⟨.faddr 0 (.slot 6), some 70, none⟩, []⟩,
    ⟨⟨.load false 1 (.slot 70), some 71, none⟩, []⟩,
    ⟨⟨.len .slice (.slot 71), some 72, none⟩, []⟩,
    ⟨⟨.mv (.const (.int .i64 (.ofNat 0))), some 73, none⟩, []⟩])
  (.block 1 (.loop (.seq (.region false [⟨⟨.bin .lss 3 .num (.slot 73) (.slot 72), some 74, none⟩, []⟩])
   (.seq (.cond (.slot 74)
    .skip
    (.exit 1))
   (.seq (.block 2 (.seq (.region false [⟨⟨.iaddr 1 (.slot 71) (.slot 73), some 75, none⟩, []⟩,
     ⟨⟨.load false 1 (.slot 75), some 76, none⟩, []⟩,
     ⟨⟨.mv (.slot 76), some 17, none⟩, []⟩])
   (.seq (.region false [⟨⟨.mv (.slot 12), some 77, none⟩, []⟩,
     ⟨⟨.nilCheck (.slot 77), some 78, none⟩, []⟩,
     ⟨⟨.faddr 1 (.slot 78), some 79, none⟩, []⟩,
     ⟨⟨.load false 1 (.slot 79), some 80, none⟩, []⟩,
     ⟨⟨.mv (.slot 17), some 81, none⟩, []⟩,
     ⟨⟨.mapup .i32 (.slot 80) (.slot 81) (.const (.bool true)), none, none⟩, []⟩])
   (.seq (.region true [⟨⟨.mv (.slot 12), some 82, none⟩, []⟩,
     ⟨⟨.nilCheck (.slot 82), some 83, none⟩, []⟩,
     ⟨⟨.faddr 2 (.slot 83), some 84, none⟩, []⟩,
     ⟨⟨.load false 1 (.slot 84), some 85, none⟩, []⟩,
     ⟨⟨.mv (.slot 17), some 86, none⟩, []⟩,
     ⟨⟨.mv (.slot 0), some 87, none⟩, []⟩,
     ⟨⟨.mv (.slot 17), some 88, none⟩, []⟩,
     ⟨⟨.call (.const (.func 28 [] [])) [(.slot 87), (.slot 88)], some 89, none⟩, [⟨.load false 1 (.slot 84), some 85, none⟩]⟩,
     ⟨⟨.mapup .i32 (.slot 85) (.slot 86) (.slot 89), none, none⟩, []⟩])
   (.seq (.seq (.region false [⟨⟨.mv (.slot 12), some 90, none⟩, []⟩,
     ⟨⟨.nilCheck (.slot 90), some 91, none⟩, []⟩,
     ⟨⟨.faddr 2 (.slot 91), some 92, none⟩, []⟩,
     ⟨⟨.load false 1 (.slot 92), some 93, none⟩, []⟩,
     ⟨⟨.mv (.slot 17), some 94, none⟩, []⟩,
     ⟨⟨.lookup .i32 (.int .i64 (.ofNat 0)) (.slot 93) (.slot 94) false, some 95, none⟩, []⟩,
     ⟨⟨.bin .neq 2 .num (.slot 95) (.const (.int .i64 (.ofNat 0))), some 96, none⟩, []⟩,
     ⟨⟨.mv (.slot 96), some 97, none⟩, []⟩,
     ⟨⟨.mv (.slot 14), some 98, some (97, false)⟩, []⟩,
     ⟨⟨.mv (.slot 1), some 99, some (97, false)⟩, []⟩,
     ⟨⟨.bin .eql 3 .num (.slot 98) (.slot 99), some 100, some (97, false)⟩, []⟩,
     ⟨⟨.pick (.slot 97) (.const (.bool true)) (.slot 100), some 101, none⟩, []⟩])
   (.cond (.slot 101)
    (.exit 2)
    .skip))
   (.seq (.region false [⟨⟨.mv (.slot 0), some 103, none⟩, []⟩,
     ⟨⟨.mv (.slot 17), some 104, none⟩, []⟩,
     ⟨⟨.bslice 1 [(.int .i32 (.ofNat 0))] [(0, 1, (.slot 104))] 1, some 105, none⟩, []⟩,
     ⟨⟨.mv (.slot 15), some 106, none⟩, []⟩,
     ⟨⟨.mv (.slot 17), some 107, none⟩, []⟩,
     ⟨⟨.call (.slot 106) [(.slot 107)], some 108, none⟩, []⟩,
     ⟨⟨.call (.const (.func 27 [] [])) [(.slot 103), (.slot 105), (.slot 108), (.const (.bool false))], some 109, none⟩, []⟩,
     ⟨⟨.mv (.slot 109), some 102, none⟩, []⟩,
     ⟨⟨.extract (.slot 102) 0, some 110, none⟩, []⟩,
     ⟨⟨.extract (.slot 102) 1, some 111, none⟩, []⟩,
     ⟨⟨.mv (.slot 110), some 18, none⟩, []⟩,
     ⟨⟨.mv (.slot 111), some 19, none⟩, []⟩])
   (.seq (.seq (.region false [⟨⟨.mv (.slot 19), some 112, none⟩, []⟩,
     ⟨⟨.bin .neq 23 .num (.slot 112) (.const (.int .i64 (.ofNat 0))), some 113, none⟩, []⟩])
   (.cond (.slot 113)
    (.seq (.region false [⟨⟨.mv (.slot 14), some 114, none⟩, []⟩,
      ⟨⟨.mv (.slot 19), some 115, none⟩, []⟩,
      ⟨⟨.mv (.slot 114), some 4, none⟩, []⟩,
      ⟨⟨.mv (.slot 115), some 5, none⟩, []⟩])
    .ret)
    .skip))
   (.seq (.region false [⟨⟨.mv (.slot 12), some 116, none⟩, []⟩,
     ⟨⟨.nilCheck (.slot 116), some 117, none⟩, []⟩,
     ⟨⟨.faddr 2 (.slot 117), some 118, none⟩, []⟩,
     ⟨⟨.load false 1 (.slot 118), some 119, none⟩, []⟩,
     ⟨⟨.mv (.slot 17), some 120, none⟩, []⟩,
     ⟨⟨.mv (.slot 18), some 121, none⟩, []⟩,
     ⟨⟨.mapup .i32 (.slot 119) (.slot 120) (.slot 121), none, none⟩, []⟩])
   (.region false [⟨⟨.mv (.slot 14), some 122, none⟩, []⟩,
     ⟨⟨.bin .add 3 .num (.slot 122) (.const (.int .i64 (.ofNat 1))), some 123, none⟩, []⟩,
     ⟨⟨.mv (.slot 123), some 14, none⟩, []⟩])))))))))
   (.region false [⟨⟨.bin .add 3 .num (.slot 73) (.const (.int .i64 (.ofNat 1))), some 124, none⟩, []⟩,
     ⟨⟨.mv (.slot 124), some 73, none⟩, []⟩])))))))
  (.seq (.seq (.region false [⟨⟨.mv (.slot 13), some 125, none⟩, []⟩,
    ⟨⟨.len .slice (.slot 125), some 126, none⟩, []⟩,
    ⟨⟨.mv (.const (.int .i64 (.ofNat 0))), some 127, none⟩, []⟩])
  (.block 3 (.loop (.seq (.region false [⟨⟨.bin .lss 3 .num (.slot 127) (.slot 126), some 128, none⟩, []⟩])
   (.seq (.cond (.slot 128)
    .skip
    (.exit 3))
   (.seq (.block 4 (.seq (.region false [⟨⟨.iaddr 3 (.slot 125) (.slot 127), some 129, none⟩, []⟩,
     ⟨⟨.load true 3 (.slot 129), some 130, none⟩, []⟩,
     ⟨⟨.alloc [(.int .i64 (.ofNat 0)), .nils, (.bool false)], some 21, none⟩, []⟩,
     ⟨⟨.store 3 (.slot 21) (.slot 130), none, none⟩, []⟩])
   (.seq (.seq (.region false [⟨⟨.mv (.slot 14), some 131, none⟩, []⟩,
     ⟨⟨.mv (.slot 1), some 132, none⟩, []⟩,
     ⟨⟨.bin .eql 3 .num (.slot 131) (.slot 132), some 133, none⟩, []⟩])
   (.cond (.slot 133)
    (.exit 3)
    .skip))
   (.seq (.region false [⟨⟨.mv (.slot 12), some 135, none⟩, []⟩,
     ⟨⟨.load true 3 (.slot 21), some 136, none⟩, []⟩,
     ⟨⟨.call (.const (.func 29 [] [])) [(.slot 135), (.slot 136)], some 137, none⟩, []⟩,
     ⟨⟨.mv (.slot 137), some 134, none⟩, []⟩,
     ⟨⟨.extract (.slot 134) 0, some 138, none⟩, []⟩,
     ⟨⟨.extract (.slot 134) 1, some 139, none⟩, []⟩,
     ⟨⟨.mv (.slot 138), some 22, none⟩, []⟩,
     ⟨⟨.mv (.slot 139), some 23, none⟩, []⟩])
   (.seq (.seq (.region false [⟨⟨.mv (.slot 23), some 140, none⟩, []⟩,
     ⟨⟨.bin .neq 23 .num (.slot 140) (.const (.int .i64 (.ofNat 0))), some 141, none⟩, []⟩])
   (.cond (.slot 141)
    (.seq (.region false [⟨⟨.mv (.slot 14), some 142, none⟩, []⟩,
      ⟨⟨.mv (.slot 23), some 143, none⟩, []⟩,
      ⟨⟨.mv (.slot 142), some 4, none⟩, []⟩,
      ⟨⟨.mv (.slot 143), some 5, none⟩, []⟩])
    .ret)
    .skip))
   (.seq (.region false [⟨⟨.mv (.slot 22), some 144, none⟩, []⟩])
   (.cond (.slot 144)
    (.region false [⟨⟨.mv (.slot 14), some 145, none⟩, []⟩,
      ⟨⟨.bin .add 3 .num (.slot 145) (.const (.int .i64 (.ofNat 1))), some 146, none⟩, []⟩,
      ⟨⟨.mv (.slot 146), some 14, none⟩, []⟩])
    .skip)))))))
   (.region false [⟨⟨.bin .add 3 .num (.slot 127) (.const (.int .i64 (.ofNat 1))), some 147, none⟩, []⟩,
     ⟨⟨.mv (.slot 147), some 127, none⟩, []⟩])))))))
  (.seq (.region false [⟨⟨.mv (.slot 14), some 148, none⟩, []⟩,
    ⟨⟨.mv (.slot 148), some 4, none⟩, []⟩,
    ⟨⟨.mv (.const (.int .i64 (.ofNat 0))), some 5, none⟩, []⟩])
  .ret))))))))))),
  [.tmp 4, .tmp 5]⟩
theorem xf11_ok : compFunc Tryz.prog Tryz.f11 = some xf11 := by kernel_rfl
/-- (*threshing/base.Base).Last -/
def xf12 : XFunc := ⟨(.seq (.region false [⟨⟨.mv (.const (.int .i64 (.ofNat 0))), some 2, none⟩, []⟩])
  (.seq (.seq (.region false [⟨⟨.mv (.slot 0), some 3, none⟩, []⟩,
    ⟨⟨.bin .eql 22 .ptr (.slot 3) (.const .nilp), some 4, none⟩, []⟩])
  (.cond (.slot 4)
   (.seq (.region false [⟨⟨.mv (.const (.int .i64 (.ofNat 0))), some 2, none⟩, []⟩])
   .ret)
   .skip))
  (.seq (.region false [⟨⟨.mv (.slot 0), some 5, none⟩, []⟩,
    ⟨⟨.nilCheck (.slot 5), some 6, none⟩, []⟩,
    ⟨⟨.faddr 4 (.slot 6), some 7, none⟩, []⟩,
    ⟨⟨.load false 1 (.slot 7), some 8, none⟩, []⟩,
    ⟨⟨.mv (.slot 8), some 2, none⟩, []⟩])
  .ret))),
  [.tmp 2]⟩
theorem xf12_ok : compFunc Tryz.prog Tryz.f12 = some xf12 := by kernel_rfl
/-- threshing/threshingkit.SameEntries -/
def xf13 : XFunc := ⟨(.seq (.region false [⟨⟨.mv (.const (.bool false)), some 4, none⟩, []⟩])
  (.seq (.seq (.region false [⟨⟨.mv (.slot 0), some 6, none⟩, []⟩,
    ⟨⟨.len .slice (.slot 6), some 7, none⟩, []⟩,
    ⟨⟨.mv (.slot 1), some 8, none⟩, []⟩,
    ⟨⟨.len .slice (.slot 8), some 9, none⟩, []⟩,
    ⟨⟨.bin .neq 3 .num (.slot 7) (.slot 9), some 10, none⟩, []⟩])
  (.cond (.slot 10)
   (.seq (.region false [⟨⟨.mv (.const (.bool false)), some 4, none⟩, []⟩])
   .ret)
   .skip))
  (.seq (.seq (.region false [⟨⟨.mv (.const (.int .i64 (.ofNat 0))), some 5, none⟩, []⟩])
  (.block 0 (.loop (.seq (.seq (.region false [⟨⟨.mv (.slot 5), some 11, none⟩, []⟩,
     ⟨⟨.mv (.slot 0), some 12, none⟩, []⟩,
     ⟨⟨.len .slice (.slot 12), some 13, none⟩, []⟩,
     ⟨⟨.bin .lss 3 .num (.slot 11) (.slot 13), some 14, none⟩, []⟩])
   (.cond (.slot 14)
    .skip
    (.exit 0)))
   (.seq (.block 1 (.seq (.region true [⟨⟨.mv (.slot 0), some 17, none⟩, []⟩,
     ⟨⟨.mv (.slot 5), some 18, none⟩, []⟩,
     ⟨⟨.iaddr 3 (.slot 17) (.slot 18), some 19, none⟩, []⟩,
     ⟨⟨.faddr 0 (.slot 19), some 20, none⟩, []⟩,
     ⟨⟨.load false 1 (.slot 20), some 21, none⟩, []⟩,
     ⟨⟨.mv (.slot 1), some 22, none⟩, []⟩,
     ⟨⟨.mv (.slot 5), some 23, none⟩, []⟩,
     ⟨⟨.iaddr 3 (.slot 22) (.slot 23), some 24, none⟩, []⟩,
     ⟨⟨.faddr 0 (.slot 24), some 25, none⟩, []⟩,
     ⟨⟨.load false 1 (.slot 25), some 26, none⟩, []⟩,
     ⟨⟨.bin .neq 2 .num (.slot 21) (.slot 26), some 27, none⟩, []⟩,
     ⟨⟨.mv (.slot 27), some 28, none⟩, []⟩,
     ⟨⟨.mv (.slot 0), some 29, some (28, false)⟩, []⟩,
     ⟨⟨.mv (.slot 5), some 30, some (28, false)⟩, []⟩,
     ⟨⟨.iaddr 3 (.slot 29) (.slot 30), some 31, some (28, false)⟩, []⟩,
     ⟨⟨.faddr 2 (.slot 31), some 32, some (28, false)⟩, []⟩,
     ⟨⟨.load false 1 (.slot 32), some 33, some (28, false)⟩, []⟩,
     ⟨⟨.mv (.slot 1), some 34, some (28, false)⟩, []⟩,
     ⟨⟨.mv (.slot 5), some 35, some (28, false)⟩, []⟩,
     ⟨⟨.iaddr 3 (.slot 34) (.slot 35), some 36, some (28, false)⟩, []⟩,
     ⟨⟨.faddr 2 (.slot 36), some 37, some (28, false)⟩, []⟩,
     ⟨⟨.load false 1 (.slot 37), some 38, some (28, false)⟩, []⟩,
     ⟨⟨.bin .neq 4 .bool (.slot 33) (.slot 38), some 39, some (28, false)⟩, []⟩,
     ⟨⟨.pick (.slot 28) (.const (.bool true)) (.slot 39), some 40, none⟩, []⟩,
     ⟨⟨.mv (.slot 40), some 41, none⟩, []⟩,
     ⟨⟨.mv (.slot 0), some 42, some (41, false)⟩, []⟩,
     ⟨⟨.mv (.slot 5), some 43, some (41, false)⟩, []⟩,
     ⟨⟨.iaddr 3 (.slot 42) (.slot 43), some 44, some (41, false)⟩, []⟩,
     ⟨⟨.faddr 1 (.slot 44), some 45, some (41, false)⟩, []⟩,
     ⟨⟨.load false 1 (.slot 45), some 46, some (41, false)⟩, []⟩,
     ⟨⟨.mv (.slot 1), some 47, some (41, false)⟩, []⟩,
     ⟨⟨.mv (.slot 5), some 48, some (41, false)⟩, []⟩,
     ⟨⟨.iaddr 3 (.slot 47) (.slot 48), some 49, some (41, false)⟩, []⟩,
     ⟨⟨.faddr 1 (.slot 49), some 50, some (41, false)⟩, []⟩,
     ⟨⟨.load false 1 (.slot 50), some 51, some (41, false)⟩, []⟩,
     ⟨⟨.call (.const (.func 7 [] [])) [(.slot 46), (.slot 51)], some 52, some (41, false)⟩, []⟩,
     ⟨⟨.un .not (.slot 52), some 53, some (41, false)⟩, []⟩,
     ⟨⟨.pick (.slot 41) (.const (.bool true)) (.slot 53), some 54, none⟩, []⟩])
   (.cond (.slot 54)
    (.seq (.region false [⟨⟨.mv (.const (.bool false)), some 4, none⟩, []⟩])
    .ret)
    .skip)))
   (.region false [⟨⟨.mv (.slot 5), some 15, none⟩, []⟩,
     ⟨⟨.bin .add 3 .num (.slot 15) (.const (.int .i64 (.ofNat 1))), some 16, none⟩, []⟩,
     ⟨⟨.mv (.slot 16), some 5, none⟩, []⟩]))))))
  (.seq (.region false [⟨⟨.mv (.const (.bool true)), some 4, none⟩, []⟩])
  .ret)))),
  [.tmp 4]⟩
theorem xf13_ok : compFunc Tryz.prog Tryz.f13 = some xf13 := by kernel_rfl
end Go.Proofs.YtndkeibkcadpkaaGreat

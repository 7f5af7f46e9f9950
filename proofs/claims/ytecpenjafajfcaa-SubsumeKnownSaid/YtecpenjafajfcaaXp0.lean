/- The functions of the program in X's code, printed by a program of ours; each is what the program's own is turned to. -/
import Derived.Test.YtecpenjafajfcaaProg
import Derived.Test.YtecpenjafajfcaaXc
import Derived.KernelRfl
namespace Go.Proofs.Ytecpenjafajfcaa
open Go.Xr
/-- gosem.cut.init -/
def xf2 : XFunc := ⟨(.region false [⟨⟨.call (.const (.func 1 [] [])) [], some 0, none⟩, []⟩]),
  []⟩
theorem xf2_ok : compFunc Try.prog Try.f2 = some xf2 := by kernel_rfl
/-- threshing/threshinglaw24.SubsumeKnown -/
def xf3 : XFunc := ⟨(.seq (.region false [⟨⟨.mv (.const (.bool false)), some 0, none⟩, []⟩])
  (.seq (.region false [⟨⟨.bslice 1 [(.int .i32 (.ofNat 0)), (.int .i32 (.ofNat 0)), (.int .i32 (.ofNat 0))] [(0, 1, (.const (.int .i32 (.ofNat 1)))), (1, 1, (.const (.int .i32 (.ofNat 2)))), (2, 1, (.const (.int .i32 (.ofNat 3))))] 3, some 28, none⟩, []⟩,
    ⟨⟨.bslice 1 [(.int .i32 (.ofNat 0)), (.int .i32 (.ofNat 0))] [(0, 1, (.const (.int .i32 (.ofNat 2)))), (1, 1, (.const (.int .i32 (.ofNat 1))))] 2, some 29, none⟩, []⟩,
    ⟨⟨.bslice 1 [(.int .i32 (.ofNat 0)), (.int .i32 (.ofNat 0))] [(0, 1, (.const (.int .i32 (.ofNat 1)))), (1, 1, (.const (.int .i32 (.ofNat 2))))] 2, some 30, none⟩, []⟩,
    ⟨⟨.bslice 1 [.nils, .nils, .nils] [(0, 1, (.slot 28)), (1, 1, (.slot 29)), (2, 1, (.slot 30))] 3, some 31, none⟩, []⟩,
    ⟨⟨.call (.const (.func 4 [] [])) [(.slot 31)], some 32, none⟩, []⟩,
    ⟨⟨.mv (.slot 32), some 1, none⟩, []⟩])
  (.seq (.region false [⟨⟨.mv (.slot 1), some 34, none⟩, []⟩,
    ⟨⟨.call (.const (.func 5 [] [])) [(.slot 34), (.const (.int .i64 (.ofNat 9)))], some 35, none⟩, []⟩,
    ⟨⟨.mv (.slot 35), some 33, none⟩, []⟩,
    ⟨⟨.extract (.slot 33) 0, some 36, none⟩, []⟩,
    ⟨⟨.extract (.slot 33) 1, some 37, none⟩, []⟩,
    ⟨⟨.mv (.slot 36), some 2, none⟩, []⟩,
    ⟨⟨.mv (.slot 37), some 3, none⟩, []⟩])
  (.seq (.region false [⟨⟨.mv (.slot 1), some 38, none⟩, []⟩,
    ⟨⟨.call (.const (.func 6 [] [])) [(.slot 38)], some 39, none⟩, []⟩,
    ⟨⟨.mv (.slot 39), some 4, none⟩, []⟩])
  (.seq (.region false [⟨⟨.mv (.slot 2), some 40, none⟩, []⟩,
    ⟨⟨.bin .eql 3 .num (.slot 40) (.const (.int .i64 (.ofNat 2))), some 41, none⟩, []⟩,
    ⟨⟨.mv (.slot 41), some 42, none⟩, []⟩,
    ⟨⟨.mv (.slot 3), some 43, some (42, true)⟩, []⟩,
    ⟨⟨.bin .eql 27 .num (.slot 43) (.const (.int .i64 (.ofNat 0))), some 44, some (42, true)⟩, []⟩,
    ⟨⟨.pick (.slot 42) (.slot 44) (.const (.bool false)), some 45, none⟩, []⟩,
    ⟨⟨.mv (.slot 45), some 46, none⟩, []⟩,
    ⟨⟨.mv (.slot 4), some 47, some (46, true)⟩, []⟩,
    ⟨⟨.len .slice (.slot 47), some 48, some (46, true)⟩, []⟩,
    ⟨⟨.bin .eql 3 .num (.slot 48) (.const (.int .i64 (.ofNat 1))), some 49, some (46, true)⟩, []⟩,
    ⟨⟨.pick (.slot 46) (.slot 49) (.const (.bool false)), some 50, none⟩, []⟩,
    ⟨⟨.mv (.slot 50), some 51, none⟩, []⟩,
    ⟨⟨.mv (.slot 4), some 52, some (51, true)⟩, []⟩,
    ⟨⟨.iaddr 3 (.slot 52) (.const (.int .i64 (.ofNat 0))), some 53, some (51, true)⟩, []⟩,
    ⟨⟨.faddr 0 (.slot 53), some 54, some (51, true)⟩, []⟩,
    ⟨⟨.load false 1 (.slot 54), some 55, some (51, true)⟩, []⟩,
    ⟨⟨.bin .eql 2 .num (.slot 55) (.const (.int .i64 (.ofNat 2))), some 56, some (51, true)⟩, []⟩,
    ⟨⟨.pick (.slot 51) (.slot 56) (.const (.bool false)), some 57, none⟩, []⟩,
    ⟨⟨.mv (.slot 57), some 5, none⟩, []⟩])
  (.seq (.region false [⟨⟨.bslice 1 [(.int .i32 (.ofNat 0)), (.int .i32 (.ofNat 0))] [(0, 1, (.const (.int .i32 (.ofNat 1)))), (1, 1, (.const (.int .i32 (.ofNat 2))))] 2, some 58, none⟩, []⟩,
    ⟨⟨.bslice 1 [(.int .i32 (.ofNat 0)), (.int .i32 (.ofNat 0))] [(0, 1, (.const (.int .i32 (.ofNat 1)))), (1, 1, (.const (.int .i32 (.negSucc 1))))] 2, some 59, none⟩, []⟩,
    ⟨⟨.bslice 1 [.nils, .nils] [(0, 1, (.slot 58)), (1, 1, (.slot 59))] 2, some 60, none⟩, []⟩,
    ⟨⟨.call (.const (.func 4 [] [])) [(.slot 60)], some 61, none⟩, []⟩,
    ⟨⟨.mv (.slot 61), some 6, none⟩, []⟩])
  (.seq (.region false [⟨⟨.mv (.slot 6), some 63, none⟩, []⟩,
    ⟨⟨.call (.const (.func 5 [] [])) [(.slot 63), (.const (.int .i64 (.ofNat 9)))], some 64, none⟩, []⟩,
    ⟨⟨.mv (.slot 64), some 62, none⟩, []⟩,
    ⟨⟨.extract (.slot 62) 0, some 65, none⟩, []⟩,
    ⟨⟨.extract (.slot 62) 1, some 66, none⟩, []⟩,
    ⟨⟨.mv (.slot 65), some 7, none⟩, []⟩,
    ⟨⟨.mv (.slot 66), some 8, none⟩, []⟩])
  (.seq (.region false [⟨⟨.mv (.slot 6), some 67, none⟩, []⟩,
    ⟨⟨.call (.const (.func 6 [] [])) [(.slot 67)], some 68, none⟩, []⟩,
    ⟨⟨.mv (.slot 68), some 9, none⟩, []⟩])
  (.seq (.region false [⟨⟨.mv (.slot 7), some 69, none⟩, []⟩,
    ⟨⟨.bin .eql 3 .num (.slot 69) (.const (.int .i64 (.ofNat 2))), some 70, none⟩, []⟩,
    ⟨⟨.mv (.slot 70), some 71, none⟩, []⟩,
    ⟨⟨.mv (.slot 8), some 72, some (71, true)⟩, []⟩,
    ⟨⟨.bin .eql 27 .num (.slot 72) (.const (.int .i64 (.ofNat 0))), some 73, some (71, true)⟩, []⟩,
    ⟨⟨.pick (.slot 71) (.slot 73) (.const (.bool false)), some 74, none⟩, []⟩,
    ⟨⟨.mv (.slot 74), some 75, none⟩, []⟩,
    ⟨⟨.mv (.slot 9), some 76, some (75, true)⟩, []⟩,
    ⟨⟨.len .slice (.slot 76), some 77, some (75, true)⟩, []⟩,
    ⟨⟨.bin .eql 3 .num (.slot 77) (.const (.int .i64 (.ofNat 1))), some 78, some (75, true)⟩, []⟩,
    ⟨⟨.pick (.slot 75) (.slot 78) (.const (.bool false)), some 79, none⟩, []⟩,
    ⟨⟨.mv (.slot 79), some 80, none⟩, []⟩,
    ⟨⟨.mv (.slot 9), some 81, some (80, true)⟩, []⟩,
    ⟨⟨.iaddr 3 (.slot 81) (.const (.int .i64 (.ofNat 0))), some 82, some (80, true)⟩, []⟩,
    ⟨⟨.faddr 0 (.slot 82), some 83, some (80, true)⟩, []⟩,
    ⟨⟨.load false 1 (.slot 83), some 84, some (80, true)⟩, []⟩,
    ⟨⟨.bin .eql 2 .num (.slot 84) (.const (.int .i64 (.ofNat 3))), some 85, some (80, true)⟩, []⟩,
    ⟨⟨.pick (.slot 80) (.slot 85) (.const (.bool false)), some 86, none⟩, []⟩,
    ⟨⟨.mv (.slot 86), some 87, none⟩, []⟩,
    ⟨⟨.mv (.slot 9), some 88, some (87, true)⟩, []⟩,
    ⟨⟨.iaddr 3 (.slot 88) (.const (.int .i64 (.ofNat 0))), some 89, some (87, true)⟩, []⟩,
    ⟨⟨.faddr 1 (.slot 89), some 90, some (87, true)⟩, []⟩,
    ⟨⟨.load false 1 (.slot 90), some 91, some (87, true)⟩, []⟩,
    ⟨⟨.bslice 1 [(.int .i32 (.ofNat 0))] [(0, 1, (.const (.int .i32 (.ofNat 1))))] 1, some 92, some (87, true)⟩, []⟩,
    ⟨⟨.call (.const (.func 7 [] [])) [(.slot 91), (.slot 92)], some 93, some (87, true)⟩, []⟩,
    ⟨⟨.pick (.slot 87) (.slot 93) (.const (.bool false)), some 94, none⟩, []⟩,
    ⟨⟨.mv (.slot 94), some 10, none⟩, []⟩])
  (.seq (.region false [⟨⟨.bslice 1 [(.int .i32 (.ofNat 0)), (.int .i32 (.ofNat 0))] [(0, 1, (.const (.int .i32 (.ofNat 1)))), (1, 1, (.const (.int .i32 (.ofNat 2))))] 2, some 95, none⟩, []⟩,
    ⟨⟨.bslice 1 [(.int .i32 (.ofNat 0)), (.int .i32 (.ofNat 0))] [(0, 1, (.const (.int .i32 (.ofNat 1)))), (1, 1, (.const (.int .i32 (.negSucc 1))))] 2, some 96, none⟩, []⟩,
    ⟨⟨.bslice 1 [(.int .i32 (.ofNat 0)), (.int .i32 (.ofNat 0)), (.int .i32 (.ofNat 0))] [(0, 1, (.const (.int .i32 (.ofNat 1)))), (1, 1, (.const (.int .i32 (.ofNat 3)))), (2, 1, (.const (.int .i32 (.ofNat 4))))] 3, some 97, none⟩, []⟩,
    ⟨⟨.bslice 1 [.nils, .nils, .nils] [(0, 1, (.slot 95)), (1, 1, (.slot 96)), (2, 1, (.slot 97))] 3, some 98, none⟩, []⟩,
    ⟨⟨.call (.const (.func 4 [] [])) [(.slot 98)], some 99, none⟩, []⟩,
    ⟨⟨.mv (.slot 99), some 11, none⟩, []⟩])
  (.seq (.region false [⟨⟨.mv (.slot 11), some 101, none⟩, []⟩,
    ⟨⟨.bslice 1 [(.int .i32 (.ofNat 0))] [(0, 1, (.const (.int .i32 (.ofNat 1))))] 1, some 102, none⟩, []⟩,
    ⟨⟨.bslice 1 [(.int .i64 (.ofNat 0)), (.int .i64 (.ofNat 0))] [(0, 1, (.const (.int .i64 (.ofNat 1)))), (1, 1, (.const (.int .i64 (.ofNat 2))))] 2, some 103, none⟩, []⟩,
    ⟨⟨.call (.const (.func 8 [] [])) [(.slot 101), (.slot 102), (.slot 103), (.const (.bool true))], some 104, none⟩, []⟩,
    ⟨⟨.mv (.slot 104), some 100, none⟩, []⟩,
    ⟨⟨.extract (.slot 100) 0, some 105, none⟩, []⟩,
    ⟨⟨.extract (.slot 100) 1, some 106, none⟩, []⟩,
    ⟨⟨.mv (.slot 105), some 12, none⟩, []⟩,
    ⟨⟨.mv (.slot 106), some 13, none⟩, []⟩])
  (.seq (.region false [⟨⟨.mv (.slot 11), some 108, none⟩, []⟩,
    ⟨⟨.call (.const (.func 5 [] [])) [(.slot 108), (.const (.int .i64 (.ofNat 1)))], some 109, none⟩, []⟩,
    ⟨⟨.mv (.slot 109), some 107, none⟩, []⟩,
    ⟨⟨.extract (.slot 107) 0, some 110, none⟩, []⟩,
    ⟨⟨.extract (.slot 107) 1, some 111, none⟩, []⟩,
    ⟨⟨.mv (.slot 110), some 14, none⟩, []⟩,
    ⟨⟨.mv (.slot 111), some 15, none⟩, []⟩])
  (.seq (.region false [⟨⟨.mv (.slot 11), some 113, none⟩, []⟩,
    ⟨⟨.mv (.slot 12), some 114, none⟩, []⟩,
    ⟨⟨.call (.const (.func 9 [] [])) [(.slot 113), (.slot 114)], some 115, none⟩, []⟩,
    ⟨⟨.mv (.slot 115), some 112, none⟩, []⟩,
    ⟨⟨.extract (.slot 112) 0, some 116, none⟩, []⟩,
    ⟨⟨.extract (.slot 112) 1, some 117, none⟩, []⟩,
    ⟨⟨.alloc [(.int .i64 (.ofNat 0)), .nils, (.bool false)], some 16, none⟩, []⟩,
    ⟨⟨.store 3 (.slot 16) (.slot 116), none, none⟩, []⟩,
    ⟨⟨.mv (.slot 117), some 17, none⟩, []⟩])
  (.seq (.region false [⟨⟨.mv (.slot 13), some 118, none⟩, []⟩,
    ⟨⟨.bin .eql 27 .num (.slot 118) (.const (.int .i64 (.ofNat 0))), some 119, none⟩, []⟩,
    ⟨⟨.mv (.slot 119), some 120, none⟩, []⟩,
    ⟨⟨.mv (.slot 14), some 121, some (120, true)⟩, []⟩,
    ⟨⟨.bin .eql 3 .num (.slot 121) (.const (.int .i64 (.ofNat 1))), some 122, some (120, true)⟩, []⟩,
    ⟨⟨.pick (.slot 120) (.slot 122) (.const (.bool false)), some 123, none⟩, []⟩,
    ⟨⟨.mv (.slot 123), some 124, none⟩, []⟩,
    ⟨⟨.mv (.slot 15), some 125, some (124, true)⟩, []⟩,
    ⟨⟨.bin .eql 27 .num (.slot 125) (.const (.int .i64 (.ofNat 0))), some 126, some (124, true)⟩, []⟩,
    ⟨⟨.pick (.slot 124) (.slot 126) (.const (.bool false)), some 127, none⟩, []⟩,
    ⟨⟨.mv (.slot 127), some 128, none⟩, []⟩,
    ⟨⟨.mv (.slot 17), some 129, some (128, true)⟩, []⟩,
    ⟨⟨.pick (.slot 128) (.slot 129) (.const (.bool false)), some 130, none⟩, []⟩,
    ⟨⟨.mv (.slot 130), some 131, none⟩, []⟩,
    ⟨⟨.faddr 2 (.slot 16), some 132, some (131, true)⟩, []⟩,
    ⟨⟨.load false 1 (.slot 132), some 133, some (131, true)⟩, []⟩,
    ⟨⟨.un .not (.slot 133), some 134, some (131, true)⟩, []⟩,
    ⟨⟨.pick (.slot 131) (.slot 134) (.const (.bool false)), some 135, none⟩, []⟩,
    ⟨⟨.mv (.slot 135), some 18, none⟩, []⟩])
  (.seq (.region false [⟨⟨.bslice 1 [] [] 0, some 136, none⟩, []⟩,
    ⟨⟨.bslice 1 [(.int .i32 (.ofNat 0)), (.int .i32 (.ofNat 0))] [(0, 1, (.const (.int .i32 (.ofNat 1)))), (1, 1, (.const (.int .i32 (.negSucc 0))))] 2, some 137, none⟩, []⟩,
    ⟨⟨.bslice 1 [(.int .i32 (.ofNat 0))] [(0, 1, (.const (.int .i32 (.ofNat 1))))] 1, some 138, none⟩, []⟩,
    ⟨⟨.bslice 1 [.nils, .nils, .nils] [(0, 1, (.slot 136)), (1, 1, (.slot 137)), (2, 1, (.slot 138))] 3, some 139, none⟩, []⟩,
    ⟨⟨.call (.const (.func 4 [] [])) [(.slot 139)], some 140, none⟩, []⟩,
    ⟨⟨.mv (.slot 140), some 19, none⟩, []⟩])
  (.seq (.region false [⟨⟨.mv (.slot 19), some 142, none⟩, []⟩,
    ⟨⟨.call (.const (.func 5 [] [])) [(.slot 142), (.const (.int .i64 (.ofNat 9)))], some 143, none⟩, []⟩,
    ⟨⟨.mv (.slot 143), some 141, none⟩, []⟩,
    ⟨⟨.extract (.slot 141) 0, some 144, none⟩, []⟩,
    ⟨⟨.extract (.slot 141) 1, some 145, none⟩, []⟩,
    ⟨⟨.mv (.slot 144), some 20, none⟩, []⟩,
    ⟨⟨.mv (.slot 145), some 21, none⟩, []⟩])
  (.seq (.region false [⟨⟨.call (.const (.func 5 [] [])) [(.const .nilp), (.const (.int .i64 (.ofNat 1)))], some 147, none⟩, []⟩,
    ⟨⟨.mv (.slot 147), some 146, none⟩, []⟩,
    ⟨⟨.extract (.slot 146) 0, some 148, none⟩, []⟩,
    ⟨⟨.extract (.slot 146) 1, some 149, none⟩, []⟩,
    ⟨⟨.mv (.slot 148), some 22, none⟩, []⟩,
    ⟨⟨.mv (.slot 149), some 23, none⟩, []⟩])
  (.seq (.region false [⟨⟨.mv (.slot 19), some 151, none⟩, []⟩,
    ⟨⟨.call (.const (.func 5 [] [])) [(.slot 151), (.const (.int .i64 (.negSucc 0)))], some 152, none⟩, []⟩,
    ⟨⟨.mv (.slot 152), some 150, none⟩, []⟩,
    ⟨⟨.extract (.slot 150) 0, some 153, none⟩, []⟩,
    ⟨⟨.extract (.slot 150) 1, some 154, none⟩, []⟩,
    ⟨⟨.mv (.slot 153), some 24, none⟩, []⟩,
    ⟨⟨.mv (.slot 154), some 25, none⟩, []⟩])
  (.seq (.region false [⟨⟨.bslice 1 [(.int .i32 (.ofNat 0)), (.int .i32 (.ofNat 0))] [(0, 1, (.const (.int .i32 (.ofNat 1)))), (1, 1, (.const (.int .i32 (.ofNat 2))))] 2, some 156, none⟩, []⟩,
    ⟨⟨.bslice 1 [(.int .i32 (.ofNat 0)), (.int .i32 (.ofNat 0))] [(0, 1, (.const (.int .i32 (.ofNat 1)))), (1, 1, (.const (.int .i32 (.ofNat 2))))] 2, some 157, none⟩, []⟩,
    ⟨⟨.bslice 1 [.nils, .nils] [(0, 1, (.slot 156)), (1, 1, (.slot 157))] 2, some 158, none⟩, []⟩,
    ⟨⟨.call (.const (.func 4 [] [])) [(.slot 158)], some 159, none⟩, []⟩,
    ⟨⟨.call (.const (.func 5 [] [])) [(.slot 159), (.const (.int .i64 (.ofNat 0)))], some 160, none⟩, []⟩,
    ⟨⟨.mv (.slot 160), some 155, none⟩, []⟩,
    ⟨⟨.extract (.slot 155) 0, some 161, none⟩, []⟩,
    ⟨⟨.extract (.slot 155) 1, some 162, none⟩, []⟩,
    ⟨⟨.mv (.slot 161), some 26, none⟩, []⟩,
    ⟨⟨.mv (.slot 162), some 27, none⟩, []⟩])
  (.seq (.region false [⟨⟨.mv (.slot 5), some 163, none⟩, []⟩,
    ⟨⟨.mv (.slot 163), some 164, none⟩, []⟩,
    ⟨⟨.mv (.slot 10), some 165, some (164, true)⟩, []⟩,
    ⟨⟨.pick (.slot 164) (.slot 165) (.const (.bool false)), some 166, none⟩, []⟩,
    ⟨⟨.mv (.slot 166), some 167, none⟩, []⟩,
    ⟨⟨.mv (.slot 18), some 168, some (167, true)⟩, []⟩,
    ⟨⟨.pick (.slot 167) (.slot 168) (.const (.bool false)), some 169, none⟩, []⟩,
    ⟨⟨.mv (.slot 169), some 170, none⟩, []⟩,
    ⟨⟨.mv (.slot 20), some 171, some (170, true)⟩, []⟩,
    ⟨⟨.bin .eql 3 .num (.slot 171) (.const (.int .i64 (.ofNat 2))), some 172, some (170, true)⟩, []⟩,
    ⟨⟨.pick (.slot 170) (.slot 172) (.const (.bool false)), some 173, none⟩, []⟩,
    ⟨⟨.mv (.slot 173), some 174, none⟩, []⟩,
    ⟨⟨.mv (.slot 21), some 175, some (174, true)⟩, []⟩,
    ⟨⟨.bin .eql 27 .num (.slot 175) (.const (.int .i64 (.ofNat 0))), some 176, some (174, true)⟩, []⟩,
    ⟨⟨.pick (.slot 174) (.slot 176) (.const (.bool false)), some 177, none⟩, []⟩,
    ⟨⟨.mv (.slot 177), some 178, none⟩, []⟩,
    ⟨⟨.mv (.slot 19), some 179, some (178, true)⟩, []⟩,
    ⟨⟨.call (.const (.func 6 [] [])) [(.slot 179)], some 180, some (178, true)⟩, []⟩,
    ⟨⟨.len .slice (.slot 180), some 181, some (178, true)⟩, []⟩,
    ⟨⟨.bin .eql 3 .num (.slot 181) (.const (.int .i64 (.ofNat 1))), some 182, some (178, true)⟩, []⟩,
    ⟨⟨.pick (.slot 178) (.slot 182) (.const (.bool false)), some 183, none⟩, []⟩,
    ⟨⟨.mv (.slot 183), some 184, none⟩, []⟩,
    ⟨⟨.mv (.slot 23), some 185, some (184, true)⟩, []⟩,
    ⟨⟨.bin .eql 27 .num (.slot 185) (.const (.int .i64 (.ofNat 1))), some 186, some (184, true)⟩, []⟩,
    ⟨⟨.pick (.slot 184) (.slot 186) (.const (.bool false)), some 187, none⟩, []⟩,
    ⟨⟨.mv (.slot 187), some 188, none⟩, []⟩,
    ⟨⟨.mv (.slot 25), some 189, some (188, true)⟩, []⟩,
    ⟨⟨.bin .eql 27 .num (.slot 189) (.const (.int .i64 (.ofNat 2))), some 190, some (188, true)⟩, []⟩,
    ⟨⟨.pick (.slot 188) (.slot 190) (.const (.bool false)), some 191, none⟩, []⟩,
    ⟨⟨.mv (.slot 191), some 192, none⟩, []⟩,
    ⟨⟨.mv (.slot 26), some 193, some (192, true)⟩, []⟩,
    ⟨⟨.bin .eql 3 .num (.slot 193) (.const (.int .i64 (.ofNat 0))), some 194, some (192, true)⟩, []⟩,
    ⟨⟨.pick (.slot 192) (.slot 194) (.const (.bool false)), some 195, none⟩, []⟩,
    ⟨⟨.mv (.slot 195), some 196, none⟩, []⟩,
    ⟨⟨.mv (.slot 27), some 197, some (196, true)⟩, []⟩,
    ⟨⟨.bin .eql 27 .num (.slot 197) (.const (.int .i64 (.ofNat 0))), some 198, some (196, true)⟩, []⟩,
    ⟨⟨.pick (.slot 196) (.slot 198) (.const (.bool false)), some 199, none⟩, []⟩,
    ⟨⟨.mv (.slot 199), some 200, none⟩, []⟩,
    ⟨⟨.call (.const (.func 10 [] [])) [], some 201, some (200, true)⟩, []⟩,
    ⟨⟨.pick (.slot 200) (.slot 201) (.const (.bool false)), some 202, none⟩, []⟩,
    ⟨⟨.mv (.slot 202), some 0, none⟩, []⟩])
  .ret)))))))))))))))))))),
  [.tmp 0]⟩
theorem xf3_ok : compFunc Try.prog Try.f3 = some xf3 := by kernel_rfl
/-- threshing/threshinglaw24.began -/
def xf4 : XFunc := ⟨(.seq (.region false [⟨⟨.mv (.const .nilp), some 2, none⟩, []⟩])
  (.seq (.region false [⟨⟨.mv (.slot 0), some 6, none⟩, []⟩,
    ⟨⟨.build [(.int .i64 (.ofNat 0)), .nils] [(0, 1, (.const (.int .i64 (.ofNat 4)))), (1, 1, (.slot 6))], some 7, none⟩, []⟩,
    ⟨⟨.call (.const (.func 11 [] [])) [(.slot 7)], some 8, none⟩, []⟩,
    ⟨⟨.mv (.slot 8), some 5, none⟩, []⟩,
    ⟨⟨.extract (.slot 5) 0, some 9, none⟩, []⟩,
    ⟨⟨.extract (.slot 5) 1, some 10, none⟩, []⟩,
    ⟨⟨.mv (.slot 9), some 3, none⟩, []⟩,
    ⟨⟨.mv (.slot 10), some 4, none⟩, []⟩])
  (.seq (.region false [⟨⟨.mv (.slot 3), some 11, none⟩, []⟩,
    ⟨⟨.mv (.slot 11), some 2, none⟩, []⟩])
  .ret))),
  [.tmp 2]⟩
theorem xf4_ok : compFunc Try.prog Try.f4 = some xf4 := by kernel_rfl
/-- threshing/subsume.Subsume -/
def xf5 : XFunc := ⟨(.seq (.region false [⟨⟨.mv (.const (.int .i64 (.ofNat 0))), some 4, none⟩, []⟩,
    ⟨⟨.mv (.const (.int .i64 (.ofNat 0))), some 5, none⟩, []⟩])
  (.seq (.block 0 (.seq (.region false [⟨⟨.mv (.slot 0), some 13, none⟩, []⟩,
    ⟨⟨.bin .eql 22 .ptr (.slot 13) (.const .nilp), some 14, none⟩, []⟩,
    ⟨⟨.mv (.slot 14), some 12, none⟩, []⟩])
  (.cond (.slot 12)
   (.seq (.region false [⟨⟨.mv (.const (.int .i64 (.ofNat 0))), some 4, none⟩, []⟩,
     ⟨⟨.mv (.const (.int .i64 (.ofNat 1))), some 5, none⟩, []⟩])
   .ret)
   (.seq (.region false [⟨⟨.mv (.slot 1), some 16, none⟩, []⟩,
     ⟨⟨.bin .lss 3 .num (.slot 16) (.const (.int .i64 (.ofNat 0))), some 17, none⟩, []⟩,
     ⟨⟨.mv (.slot 17), some 15, none⟩, []⟩])
   (.cond (.slot 15)
    (.seq (.region false [⟨⟨.mv (.const (.int .i64 (.ofNat 0))), some 4, none⟩, []⟩,
      ⟨⟨.mv (.const (.int .i64 (.ofNat 2))), some 5, none⟩, []⟩])
    .ret)
    .skip)))))
  (.seq (.region false [⟨⟨.mv (.const (.int .i64 (.ofNat 0))), some 6, none⟩, []⟩])
  (.seq (.seq (.region false [⟨⟨.mv (.const (.int .i64 (.ofNat 1))), some 7, none⟩, []⟩])
  (.block 1 (.loop (.seq (.seq (.region false [⟨⟨.mv (.slot 7), some 18, none⟩, []⟩,
     ⟨⟨.mv (.slot 0), some 19, none⟩, []⟩,
     ⟨⟨.call (.const (.func 12 [] [])) [(.slot 19)], some 20, none⟩, []⟩,
     ⟨⟨.bin .leq 2 .num (.slot 18) (.slot 20), some 21, none⟩, []⟩,
     ⟨⟨.mv (.slot 21), some 22, none⟩, []⟩,
     ⟨⟨.mv (.slot 6), some 23, some (22, true)⟩, []⟩,
     ⟨⟨.mv (.slot 1), some 24, some (22, true)⟩, []⟩,
     ⟨⟨.bin .lss 3 .num (.slot 23) (.slot 24), some 25, some (22, true)⟩, []⟩,
     ⟨⟨.pick (.slot 22) (.slot 25) (.const (.bool false)), some 26, none⟩, []⟩])
   (.cond (.slot 26)
    .skip
    (.exit 1)))
   (.seq (.block 2 (.seq (.region false [⟨⟨.mv (.slot 0), some 30, none⟩, []⟩,
     ⟨⟨.mv (.slot 7), some 31, none⟩, []⟩,
     ⟨⟨.call (.const (.func 9 [] [])) [(.slot 30), (.slot 31)], some 32, none⟩, []⟩,
     ⟨⟨.mv (.slot 32), some 29, none⟩, []⟩,
     ⟨⟨.extract (.slot 29) 0, some 33, none⟩, []⟩,
     ⟨⟨.extract (.slot 29) 1, some 34, none⟩, []⟩,
     ⟨⟨.alloc [(.int .i64 (.ofNat 0)), .nils, (.bool false)], some 8, none⟩, []⟩,
     ⟨⟨.store 3 (.slot 8) (.slot 33), none, none⟩, []⟩,
     ⟨⟨.mv (.slot 34), some 9, none⟩, []⟩])
   (.seq (.seq (.region false [⟨⟨.mv (.slot 9), some 35, none⟩, []⟩,
     ⟨⟨.un .not (.slot 35), some 36, none⟩, []⟩])
   (.cond (.slot 36)
    (.exit 2)
    .skip))
   (.seq (.region false [⟨⟨.mv (.slot 0), some 38, none⟩, []⟩,
     ⟨⟨.load true 3 (.slot 8), some 39, none⟩, []⟩,
     ⟨⟨.call (.const (.func 13 [] [])) [(.slot 38), (.slot 39)], some 40, none⟩, []⟩,
     ⟨⟨.mv (.slot 40), some 37, none⟩, []⟩,
     ⟨⟨.extract (.slot 37) 0, some 41, none⟩, []⟩,
     ⟨⟨.extract (.slot 37) 1, some 42, none⟩, []⟩,
     ⟨⟨.mv (.slot 41), some 10, none⟩, []⟩,
     ⟨⟨.mv (.slot 42), some 11, none⟩, []⟩])
   (.seq (.seq (.region false [⟨⟨.mv (.slot 11), some 43, none⟩, []⟩,
     ⟨⟨.bin .neq 27 .num (.slot 43) (.const (.int .i64 (.ofNat 0))), some 44, none⟩, []⟩])
   (.cond (.slot 44)
    (.seq (.region false [⟨⟨.mv (.slot 6), some 45, none⟩, []⟩,
      ⟨⟨.mv (.slot 11), some 46, none⟩, []⟩,
      ⟨⟨.mv (.slot 45), some 4, none⟩, []⟩,
      ⟨⟨.mv (.slot 46), some 5, none⟩, []⟩])
    .ret)
    .skip))
   (.seq (.region false [⟨⟨.mv (.slot 10), some 47, none⟩, []⟩])
   (.cond (.slot 47)
    (.region false [⟨⟨.mv (.slot 6), some 48, none⟩, []⟩,
      ⟨⟨.bin .add 3 .num (.slot 48) (.const (.int .i64 (.ofNat 1))), some 49, none⟩, []⟩,
      ⟨⟨.mv (.slot 49), some 6, none⟩, []⟩])
    .skip)))))))
   (.region false [⟨⟨.mv (.slot 7), some 27, none⟩, []⟩,
     ⟨⟨.bin .add 2 .num (.slot 27) (.const (.int .i64 (.ofNat 1))), some 28, none⟩, []⟩,
     ⟨⟨.mv (.slot 28), some 7, none⟩, []⟩]))))))
  (.seq (.region false [⟨⟨.mv (.slot 6), some 50, none⟩, []⟩,
    ⟨⟨.mv (.slot 50), some 4, none⟩, []⟩,
    ⟨⟨.mv (.const (.int .i64 (.ofNat 0))), some 5, none⟩, []⟩])
  .ret))))),
  [.tmp 4, .tmp 5]⟩
theorem xf5_ok : compFunc Try.prog Try.f5 = some xf5 := by kernel_rfl
/-- (*threshing/base.Base).Entries -/
def xf6 : XFunc := ⟨(.seq (.region false [⟨⟨.mv (.const .nils), some 2, none⟩, []⟩])
  (.seq (.seq (.region false [⟨⟨.mv (.slot 0), some 6, none⟩, []⟩,
    ⟨⟨.bin .eql 22 .ptr (.slot 6) (.const .nilp), some 7, none⟩, []⟩])
  (.cond (.slot 7)
   (.seq (.region false [⟨⟨.mv (.const .nils), some 2, none⟩, []⟩])
   .ret)
   .skip))
  (.seq (.region false [⟨⟨.mv (.const .nils), some 3, none⟩, []⟩])
  (.seq (.seq (.region false [⟨⟨.mv (.slot 0), some 8, none⟩, []⟩,
    ⟨⟨.nilCheck (.slot 8), some 9, none⟩, []⟩,
    ⟨⟨.faddr 1 (.slot 9), some 10, none⟩, []⟩,
    ⟨⟨.load false 1 (.slot 10), some 11, none⟩, []⟩,
    ⟨⟨.call (.const (.func 15 [] [])) [(.slot 11)], some 12, none⟩, []⟩,
    ⟨⟨.call (.const (.func 14 [] [])) [(.slot 12)], some 13, none⟩, []⟩,
    ⟨⟨.len .slice (.slot 13), some 14, none⟩, []⟩,
    ⟨⟨.mv (.const (.int .i64 (.ofNat 0))), some 15, none⟩, []⟩])
  (.block 0 (.loop (.seq (.region false [⟨⟨.bin .lss 3 .num (.slot 15) (.slot 14), some 16, none⟩, []⟩])
   (.seq (.cond (.slot 16)
    .skip
    (.exit 0))
   (.seq (.block 1 (.seq (.region false [⟨⟨.iaddr 1 (.slot 13) (.slot 15), some 17, none⟩, []⟩,
     ⟨⟨.load false 1 (.slot 17), some 18, none⟩, []⟩,
     ⟨⟨.mv (.slot 18), some 5, none⟩, []⟩])
   (.region false [⟨⟨.mv (.slot 3), some 19, none⟩, []⟩,
     ⟨⟨.mv (.slot 0), some 20, none⟩, []⟩,
     ⟨⟨.nilCheck (.slot 20), some 21, none⟩, []⟩,
     ⟨⟨.faddr 1 (.slot 21), some 22, none⟩, []⟩,
     ⟨⟨.load false 1 (.slot 22), some 23, none⟩, []⟩,
     ⟨⟨.mv (.slot 5), some 24, none⟩, []⟩,
     ⟨⟨.lookup .i64 (.agg [(.int .i64 (.ofNat 0)), .nils, (.bool false)]) (.slot 23) (.slot 24) false, some 25, none⟩, []⟩,
     ⟨⟨.call (.const (.func 16 [] [])) [(.slot 25)], some 26, none⟩, []⟩,
     ⟨⟨.bslice 3 [(.int .i64 (.ofNat 0)), .nils, (.bool false)] [(0, 3, (.slot 26))] 1, some 27, none⟩, []⟩,
     ⟨⟨.append 3 40 (.slot 19) (.slot 27), some 28, none⟩, []⟩,
     ⟨⟨.mv (.slot 28), some 3, none⟩, []⟩])))
   (.region false [⟨⟨.bin .add 3 .num (.slot 15) (.const (.int .i64 (.ofNat 1))), some 29, none⟩, []⟩,
     ⟨⟨.mv (.slot 29), some 15, none⟩, []⟩])))))))
  (.seq (.region false [⟨⟨.mv (.slot 3), some 30, none⟩, []⟩,
    ⟨⟨.mv (.slot 30), some 2, none⟩, []⟩])
  .ret))))),
  [.tmp 2]⟩
theorem xf6_ok : compFunc Try.prog Try.f6 = some xf6 := by kernel_rfl
/-- threshing/threshingkit.SameClause -/
def xf7 : XFunc := ⟨(.seq (.region false [⟨⟨.mv (.const (.bool false)), some 4, none⟩, []⟩])
  (.seq (.seq (.region false [⟨⟨.mv (.slot 0), some 6, none⟩, []⟩,
    ⟨⟨.len .slice (.slot 6), some 7, none⟩, []⟩,
    ⟨⟨.mv (.slot 1), some 8, none⟩, []⟩,
    ⟨⟨.len .slice (.slot 8), some 9, none⟩, []⟩,
    ⟨⟨.bin .neq 3 .num (.slot 7) (.slot 9), some 10, none⟩, []⟩])
  (.cond (.slot 10)
   (.seq (.region false [⟨⟨.mv (.const (.bool false)), some 4, none⟩, []⟩])
   .ret)
   .skip))
  (.seq (.seq (.region false [⟨⟨.mv (.const (.int .i64 (.ofNat 0))), some 5, none⟩, []⟩])
  (.block 0 (.loop (.seq (.seq (.region false [⟨⟨.mv (.slot 5), some 11, none⟩, []⟩,
     ⟨⟨.mv (.slot 0), some 12, none⟩, []⟩,
     ⟨⟨.len .slice (.slot 12), some 13, none⟩, []⟩,
     ⟨⟨.bin .lss 3 .num (.slot 11) (.slot 13), some 14, none⟩, []⟩])
   (.cond (.slot 14)
    .skip
    (.exit 0)))
   (.seq (.block 1 (.seq (.region true [⟨⟨.mv (.slot 0), some 17, none⟩, []⟩,
     ⟨⟨.mv (.slot 5), some 18, none⟩, []⟩,
     ⟨⟨.iaddr 1 (.slot 17) (.slot 18), some 19, none⟩, []⟩,
     ⟨⟨.load false 1 (.slot 19), some 20, none⟩, []⟩,
     ⟨⟨.mv (.slot 1), some 21, none⟩, []⟩,
     ⟨⟨.mv (.slot 5), some 22, none⟩, []⟩,
     ⟨⟨.iaddr 1 (.slot 21) (.slot 22), some 23, none⟩, []⟩,
     ⟨⟨.load false 1 (.slot 23), some 24, none⟩, []⟩,
     ⟨⟨.bin .neq 24 .num (.slot 20) (.slot 24), some 25, none⟩, []⟩])
   (.cond (.slot 25)
    (.seq (.region false [⟨⟨.mv (.const (.bool false)), some 4, none⟩, []⟩])
    .ret)
    .skip)))
   (.region false [⟨⟨.mv (.slot 5), some 15, none⟩, []⟩,
     ⟨⟨.bin .add 3 .num (.slot 15) (.const (.int .i64 (.ofNat 1))), some 16, none⟩, []⟩,
     ⟨⟨.mv (.slot 16), some 5, none⟩, []⟩]))))))
  (.seq (.region false [⟨⟨.mv (.const (.bool true)), some 4, none⟩, []⟩])
  .ret)))),
  [.tmp 4]⟩
theorem xf7_ok : compFunc Try.prog Try.f7 = some xf7 := by kernel_rfl
/-- (*threshing/base.Base).Add -/
def xf8 : XFunc := ⟨(.seq (.region false [⟨⟨.mv (.const (.int .i64 (.ofNat 0))), some 8, none⟩, []⟩,
    ⟨⟨.mv (.const (.int .i64 (.ofNat 0))), some 9, none⟩, []⟩])
  (.seq (.block 0 (.seq (.region false [⟨⟨.mv (.slot 0), some 12, none⟩, []⟩,
    ⟨⟨.bin .eql 22 .ptr (.slot 12) (.const .nilp), some 13, none⟩, []⟩,
    ⟨⟨.mv (.slot 13), some 11, none⟩, []⟩])
  (.cond (.slot 11)
   (.seq (.region false [⟨⟨.mv (.const (.int .i64 (.ofNat 0))), some 8, none⟩, []⟩,
     ⟨⟨.mv (.const (.int .i64 (.ofNat 1))), some 9, none⟩, []⟩])
   .ret)
   (.seq (.region false [⟨⟨.mv (.slot 0), some 15, none⟩, []⟩,
     ⟨⟨.call (.const (.func 17 [] [])) [(.slot 15)], some 16, none⟩, []⟩,
     ⟨⟨.mv (.slot 16), some 14, none⟩, []⟩])
   (.cond (.slot 14)
    (.seq (.region false [⟨⟨.mv (.const (.int .i64 (.ofNat 0))), some 8, none⟩, []⟩,
      ⟨⟨.mv (.const (.int .i64 (.ofNat 3))), some 9, none⟩, []⟩])
    .ret)
    (.seq (.region false [⟨⟨.mv (.slot 0), some 18, none⟩, []⟩,
      ⟨⟨.mv (.slot 1), some 19, none⟩, []⟩,
      ⟨⟨.call (.const (.func 18 [] [])) [(.slot 18), (.slot 19)], some 20, none⟩, []⟩,
      ⟨⟨.un .not (.slot 20), some 21, none⟩, []⟩,
      ⟨⟨.mv (.slot 21), some 17, none⟩, []⟩])
    (.cond (.slot 17)
     (.seq (.region false [⟨⟨.mv (.const (.int .i64 (.ofNat 0))), some 8, none⟩, []⟩,
       ⟨⟨.mv (.const (.int .i64 (.ofNat 4))), some 9, none⟩, []⟩])
     .ret)
     .skip)))))))
  (.seq (.seq (.region false [⟨⟨.mv (.slot 0), some 22, none⟩, []⟩,
    ⟨⟨.mv (.slot 1), some 23, none⟩, []⟩,
    ⟨⟨.mv (.slot 2), some 24, none⟩, []⟩,
    ⟨⟨.call (.const (.func 19 [] [])) [(.slot 22), (.slot 23), (.slot 24)], some 25, none⟩, []⟩,
    ⟨⟨.mv (.slot 25), some 10, none⟩, []⟩])
  (.seq (.region false [⟨⟨.mv (.slot 10), some 26, none⟩, []⟩,
    ⟨⟨.bin .neq 27 .num (.slot 26) (.const (.int .i64 (.ofNat 0))), some 27, none⟩, []⟩])
  (.cond (.slot 27)
   (.seq (.region false [⟨⟨.mv (.slot 10), some 28, none⟩, []⟩,
     ⟨⟨.mv (.const (.int .i64 (.ofNat 0))), some 8, none⟩, []⟩,
     ⟨⟨.mv (.slot 28), some 9, none⟩, []⟩])
   .ret)
   .skip)))
  (.seq (.region false [⟨⟨.mv (.slot 0), some 29, none⟩, []⟩,
    ⟨⟨.mv (.slot 1), some 30, none⟩, []⟩,
    ⟨⟨.mv (.slot 3), some 31, none⟩, []⟩,
    ⟨⟨.call (.const (.func 20 [] [])) [(.slot 29), (.slot 30), (.slot 31)], some 32, none⟩, []⟩])
  (.seq (.region true [⟨⟨.mv (.slot 0), some 33, none⟩, []⟩,
    ⟨⟨.mv (.slot 0), some 34, none⟩, []⟩,
    ⟨⟨.nilCheck (.slot 34), some 35, none⟩, []⟩,
    ⟨⟨.faddr 5 (.slot 35), some 36, none⟩, []⟩,
    ⟨⟨.load false 1 (.slot 36), some 37, none⟩, []⟩,
    ⟨⟨.mv (.slot 0), some 38, none⟩, []⟩,
    ⟨⟨.nilCheck (.slot 38), some 39, none⟩, []⟩,
    ⟨⟨.faddr 4 (.slot 39), some 40, none⟩, []⟩,
    ⟨⟨.load false 1 (.slot 40), some 41, none⟩, []⟩,
    ⟨⟨.mv (.slot 1), some 42, none⟩, []⟩,
    ⟨⟨.mv (.slot 2), some 44, none⟩, []⟩,
    ⟨⟨.call (.const (.func 21 [] [])) [(.slot 42)], some 43, none⟩, [⟨.load false 1 (.slot 36), some 37, none⟩, ⟨.load false 1 (.slot 40), some 41, none⟩]⟩,
    ⟨⟨.call (.const (.func 22 [] [])) [(.slot 44)], some 45, none⟩, [⟨.load false 1 (.slot 36), some 37, none⟩, ⟨.load false 1 (.slot 40), some 41, none⟩]⟩,
    ⟨⟨.build [(.int .u8 (.ofNat 0)), (.int .i64 (.ofNat 0)), .nils, .nils] [(0, 1, (.const (.int .u8 (.ofNat 1)))), (1, 1, (.slot 41)), (2, 1, (.slot 43)), (3, 1, (.slot 45))], some 46, none⟩, []⟩,
    ⟨⟨.bslice 4 [(.int .u8 (.ofNat 0)), (.int .i64 (.ofNat 0)), .nils, .nils] [(0, 4, (.slot 46))] 1, some 47, none⟩, [⟨.load false 1 (.slot 36), some 37, none⟩]⟩,
    ⟨⟨.append 4 64 (.slot 37) (.slot 47), some 48, none⟩, []⟩,
    ⟨⟨.nilCheck (.slot 33), some 49, none⟩, []⟩,
    ⟨⟨.faddr 5 (.slot 49), some 50, none⟩, []⟩,
    ⟨⟨.store 1 (.slot 50) (.slot 48), none, none⟩, []⟩])
  (.seq (.region true [⟨⟨.mv (.slot 0), some 51, none⟩, []⟩,
    ⟨⟨.mv (.slot 0), some 52, none⟩, []⟩,
    ⟨⟨.nilCheck (.slot 52), some 53, none⟩, []⟩,
    ⟨⟨.faddr 4 (.slot 53), some 54, none⟩, []⟩,
    ⟨⟨.load false 1 (.slot 54), some 55, none⟩, []⟩,
    ⟨⟨.mv (.slot 3), some 56, none⟩, []⟩,
    ⟨⟨.mv (.slot 1), some 57, none⟩, []⟩,
    ⟨⟨.mv (.slot 2), some 59, none⟩, []⟩,
    ⟨⟨.call (.const (.func 21 [] [])) [(.slot 57)], some 58, none⟩, [⟨.load false 1 (.slot 54), some 55, none⟩]⟩,
    ⟨⟨.call (.const (.func 22 [] [])) [(.slot 59)], some 60, none⟩, [⟨.load false 1 (.slot 54), some 55, none⟩]⟩,
    ⟨⟨.build [(.int .u8 (.ofNat 0)), (.int .i64 (.ofNat 0)), (.int .i64 (.ofNat 0)), (.bool false), .nils, .nils] [(0, 1, (.const (.int .u8 (.ofNat 1)))), (1, 1, (.slot 55)), (3, 1, (.slot 56)), (4, 1, (.slot 58)), (5, 1, (.slot 60))], some 61, none⟩, []⟩,
    ⟨⟨.call (.const (.func 23 [] [])) [(.slot 51), (.slot 61)], some 62, none⟩, []⟩])
  (.seq (.region false [⟨⟨.mv (.slot 0), some 63, none⟩, []⟩,
    ⟨⟨.nilCheck (.slot 63), some 64, none⟩, []⟩,
    ⟨⟨.faddr 4 (.slot 64), some 65, none⟩, []⟩,
    ⟨⟨.load false 1 (.slot 65), some 66, none⟩, []⟩,
    ⟨⟨.mv (.slot 66), some 8, none⟩, []⟩,
    ⟨⟨.mv (.const (.int .i64 (.ofNat 0))), some 9, none⟩, []⟩])
  .ret))))))),
  [.tmp 8, .tmp 9]⟩
theorem xf8_ok : compFunc Try.prog Try.f8 = some xf8 := by kernel_rfl
/-- (*threshing/base.Base).Get -/
def xf9 : XFunc := ⟨(.seq (.region false [⟨⟨.alloc [(.int .i64 (.ofNat 0)), .nils, (.bool false)], some 4, none⟩, []⟩,
    ⟨⟨.mv (.const (.bool false)), some 5, none⟩, []⟩])
  (.seq (.seq (.region false [⟨⟨.mv (.slot 0), some 8, none⟩, []⟩,
    ⟨⟨.bin .eql 22 .ptr (.slot 8) (.const .nilp), some 9, none⟩, []⟩])
  (.cond (.slot 9)
   (.seq (.region false [⟨⟨.build [(.int .i64 (.ofNat 0)), .nils, (.bool false)] [], some 10, none⟩, []⟩,
     ⟨⟨.store 3 (.slot 4) (.slot 10), none, none⟩, []⟩,
     ⟨⟨.mv (.const (.bool false)), some 5, none⟩, []⟩])
   .ret)
   .skip))
  (.seq (.region false [⟨⟨.mv (.slot 0), some 12, none⟩, []⟩,
    ⟨⟨.nilCheck (.slot 12), some 13, none⟩, []⟩,
    ⟨⟨.faddr 1 (.slot 13), some 14, none⟩, []⟩,
    ⟨⟨.load false 1 (.slot 14), some 15, none⟩, []⟩,
    ⟨⟨.mv (.slot 1), some 16, none⟩, []⟩,
    ⟨⟨.lookup .i64 (.agg [(.int .i64 (.ofNat 0)), .nils, (.bool false)]) (.slot 15) (.slot 16) true, some 17, none⟩, []⟩,
    ⟨⟨.mv (.slot 17), some 11, none⟩, []⟩,
    ⟨⟨.extract (.slot 11) 0, some 18, none⟩, []⟩,
    ⟨⟨.extract (.slot 11) 1, some 19, none⟩, []⟩,
    ⟨⟨.alloc [(.int .i64 (.ofNat 0)), .nils, (.bool false)], some 6, none⟩, []⟩,
    ⟨⟨.store 3 (.slot 6) (.slot 18), none, none⟩, []⟩,
    ⟨⟨.mv (.slot 19), some 7, none⟩, []⟩])
  (.seq (.region false [⟨⟨.load true 3 (.slot 6), some 20, none⟩, []⟩,
    ⟨⟨.call (.const (.func 16 [] [])) [(.slot 20)], some 21, none⟩, []⟩,
    ⟨⟨.mv (.slot 7), some 22, none⟩, []⟩,
    ⟨⟨.store 3 (.slot 4) (.slot 21), none, none⟩, []⟩,
    ⟨⟨.mv (.slot 22), some 5, none⟩, []⟩])
  .ret)))),
  [.cell 4 true 3, .tmp 5]⟩
theorem xf9_ok : compFunc Try.prog Try.f9 = some xf9 := by kernel_rfl
/-- threshing/threshinglaw24.works -/
def xf10 : XFunc := ⟨(.seq (.region false [⟨⟨.mv (.const (.bool false)), some 0, none⟩, []⟩])
  (.seq (.region false [⟨⟨.bslice 1 [(.int .i32 (.ofNat 0)), (.int .i32 (.ofNat 0)), (.int .i32 (.ofNat 0))] [(0, 1, (.const (.int .i32 (.ofNat 1)))), (1, 1, (.const (.int .i32 (.ofNat 2)))), (2, 1, (.const (.int .i32 (.ofNat 3))))] 3, some 6, none⟩, []⟩,
    ⟨⟨.bslice 1 [(.int .i32 (.ofNat 0)), (.int .i32 (.ofNat 0))] [(0, 1, (.const (.int .i32 (.negSucc 0)))), (1, 1, (.const (.int .i32 (.ofNat 2))))] 2, some 7, none⟩, []⟩,
    ⟨⟨.bslice 1 [(.int .i32 (.ofNat 0)), (.int .i32 (.ofNat 0))] [(0, 1, (.const (.int .i32 (.ofNat 2)))), (1, 1, (.const (.int .i32 (.ofNat 4))))] 2, some 8, none⟩, []⟩,
    ⟨⟨.bslice 1 [.nils, .nils, .nils] [(0, 1, (.slot 6)), (1, 1, (.slot 7)), (2, 1, (.slot 8))] 3, some 9, none⟩, []⟩,
    ⟨⟨.call (.const (.func 4 [] [])) [(.slot 9)], some 10, none⟩, []⟩,
    ⟨⟨.mv (.slot 10), some 1, none⟩, []⟩])
  (.seq (.region false [⟨⟨.mv (.slot 1), some 12, none⟩, []⟩,
    ⟨⟨.call (.const (.func 5 [] [])) [(.slot 12), (.const (.int .i64 (.ofNat 9)))], some 13, none⟩, []⟩,
    ⟨⟨.mv (.slot 13), some 11, none⟩, []⟩,
    ⟨⟨.extract (.slot 11) 0, some 14, none⟩, []⟩,
    ⟨⟨.extract (.slot 11) 1, some 15, none⟩, []⟩,
    ⟨⟨.mv (.slot 14), some 2, none⟩, []⟩,
    ⟨⟨.mv (.slot 15), some 3, none⟩, []⟩])
  (.seq (.region false [⟨⟨.mv (.slot 1), some 17, none⟩, []⟩,
    ⟨⟨.call (.const (.func 9 [] [])) [(.slot 17), (.const (.int .i64 (.ofNat 4)))], some 18, none⟩, []⟩,
    ⟨⟨.mv (.slot 18), some 16, none⟩, []⟩,
    ⟨⟨.extract (.slot 16) 0, some 19, none⟩, []⟩,
    ⟨⟨.extract (.slot 16) 1, some 20, none⟩, []⟩,
    ⟨⟨.alloc [(.int .i64 (.ofNat 0)), .nils, (.bool false)], some 4, none⟩, []⟩,
    ⟨⟨.store 3 (.slot 4) (.slot 19), none, none⟩, []⟩,
    ⟨⟨.mv (.slot 20), some 5, none⟩, []⟩])
  (.seq (.region false [⟨⟨.mv (.slot 2), some 21, none⟩, []⟩,
    ⟨⟨.bin .eql 3 .num (.slot 21) (.const (.int .i64 (.ofNat 1))), some 22, none⟩, []⟩,
    ⟨⟨.mv (.slot 22), some 23, none⟩, []⟩,
    ⟨⟨.mv (.slot 3), some 24, some (23, true)⟩, []⟩,
    ⟨⟨.bin .eql 27 .num (.slot 24) (.const (.int .i64 (.ofNat 0))), some 25, some (23, true)⟩, []⟩,
    ⟨⟨.pick (.slot 23) (.slot 25) (.const (.bool false)), some 26, none⟩, []⟩,
    ⟨⟨.mv (.slot 26), some 27, none⟩, []⟩,
    ⟨⟨.mv (.slot 5), some 28, some (27, true)⟩, []⟩,
    ⟨⟨.pick (.slot 27) (.slot 28) (.const (.bool false)), some 29, none⟩, []⟩,
    ⟨⟨.mv (.slot 29), some 30, none⟩, []⟩,
    ⟨⟨.faddr 1 (.slot 4), some 31, some (30, true)⟩, []⟩,
    ⟨⟨.load false 1 (.slot 31), some 32, some (30, true)⟩, []⟩,
    ⟨⟨.bslice 1 [(.int .i32 (.ofNat 0)), (.int .i32 (.ofNat 0))] [(0, 1, (.const (.int .i32 (.ofNat 2)))), (1, 1, (.const (.int .i32 (.ofNat 3))))] 2, some 33, some (30, true)⟩, []⟩,
    ⟨⟨.call (.const (.func 7 [] [])) [(.slot 32), (.slot 33)], some 34, some (30, true)⟩, []⟩,
    ⟨⟨.pick (.slot 30) (.slot 34) (.const (.bool false)), some 35, none⟩, []⟩,
    ⟨⟨.mv (.slot 35), some 36, none⟩, []⟩,
    ⟨⟨.mv (.slot 1), some 37, some (36, true)⟩, []⟩,
    ⟨⟨.call (.const (.func 6 [] [])) [(.slot 37)], some 38, some (36, true)⟩, []⟩,
    ⟨⟨.len .slice (.slot 38), some 39, some (36, true)⟩, []⟩,
    ⟨⟨.bin .eql 3 .num (.slot 39) (.const (.int .i64 (.ofNat 3))), some 40, some (36, true)⟩, []⟩,
    ⟨⟨.pick (.slot 36) (.slot 40) (.const (.bool false)), some 41, none⟩, []⟩,
    ⟨⟨.mv (.slot 41), some 0, none⟩, []⟩])
  .ret))))),
  [.tmp 0]⟩
theorem xf10_ok : compFunc Try.prog Try.f10 = some xf10 := by kernel_rfl
/-- threshing/base.New -/
def xf11 : XFunc := ⟨(.seq (.region false [⟨⟨.box (.slot 0), some 1, none⟩, []⟩,
    ⟨⟨.mv (.const .nilp), some 2, none⟩, []⟩,
    ⟨⟨.mv (.const (.int .i64 (.ofNat 0))), some 3, none⟩, []⟩])
  (.seq (.seq (.region false [⟨⟨.load true 2 (.slot 1), some 8, none⟩, []⟩,
    ⟨⟨.call (.const (.func 24 [] [])) [(.slot 8)], some 9, none⟩, []⟩,
    ⟨⟨.mv (.slot 9), some 4, none⟩, []⟩])
  (.seq (.region false [⟨⟨.mv (.slot 4), some 10, none⟩, []⟩,
    ⟨⟨.bin .neq 27 .num (.slot 10) (.const (.int .i64 (.ofNat 0))), some 11, none⟩, []⟩])
  (.cond (.slot 11)
   (.seq (.region false [⟨⟨.mv (.slot 4), some 12, none⟩, []⟩,
     ⟨⟨.mv (.const .nilp), some 2, none⟩, []⟩,
     ⟨⟨.mv (.slot 12), some 3, none⟩, []⟩])
   .ret)
   .skip)))
  (.seq (.region false [⟨⟨.faddr 0 (.slot 1), some 13, none⟩, []⟩,
    ⟨⟨.load false 1 (.slot 13), some 14, none⟩, []⟩,
    ⟨⟨.mkmap .i64, some 15, none⟩, []⟩,
    ⟨⟨.mkmap .i32, some 16, none⟩, []⟩,
    ⟨⟨.mkmap .i64, some 17, none⟩, []⟩,
    ⟨⟨.build [(.int .i64 (.ofNat 0)), .nilm, .nilm, .nilm, (.int .i64 (.ofNat 0)), .nils, .nils, .nils] [(0, 1, (.slot 14)), (1, 1, (.slot 15)), (2, 1, (.slot 16)), (3, 1, (.slot 17))], some 18, none⟩, []⟩,
    ⟨⟨.box (.slot 18), some 19, none⟩, []⟩,
    ⟨⟨.mv (.slot 19), some 5, none⟩, []⟩])
  (.seq (.seq (.region false [⟨⟨.faddr 1 (.slot 1), some 20, none⟩, []⟩,
    ⟨⟨.load false 1 (.slot 20), some 21, none⟩, []⟩,
    ⟨⟨.len .slice (.slot 21), some 22, none⟩, []⟩,
    ⟨⟨.mv (.const (.int .i64 (.ofNat 0))), some 23, none⟩, []⟩])
  (.block 0 (.loop (.seq (.region false [⟨⟨.bin .lss 3 .num (.slot 23) (.slot 22), some 24, none⟩, []⟩])
   (.seq (.cond (.slot 24)
    .skip
    (.exit 0))
   (.seq (.block 1 (.seq (.region false [⟨⟨.iaddr 1 (.slot 21) (.slot 23), some 25, none⟩, []⟩,
     ⟨⟨.load false 1 (.slot 25), some 26, none⟩, []⟩,
     ⟨⟨.mv (.slot 26), some 7, none⟩, []⟩])
   (.region false [⟨⟨.mv (.slot 5), some 27, none⟩, []⟩,
     ⟨⟨.mv (.slot 7), some 28, none⟩, []⟩,
     ⟨⟨.call (.const (.func 20 [] [])) [(.slot 27), (.slot 28), (.const (.bool false))], some 29, none⟩, []⟩])))
   (.region false [⟨⟨.bin .add 3 .num (.slot 23) (.const (.int .i64 (.ofNat 1))), some 30, none⟩, []⟩,
     ⟨⟨.mv (.slot 30), some 23, none⟩, []⟩])))))))
  (.seq (.region false [⟨⟨.mv (.slot 5), some 31, none⟩, []⟩,
    ⟨⟨.mv (.slot 31), some 2, none⟩, []⟩,
    ⟨⟨.mv (.const (.int .i64 (.ofNat 0))), some 3, none⟩, []⟩])
  .ret))))),
  [.tmp 2, .tmp 3]⟩
theorem xf11_ok : compFunc Try.prog Try.f11 = some xf11 := by kernel_rfl
/-- (*threshing/base.Base).Last -/
def xf12 : XFunc := ⟨(.seq (.region false [⟨⟨.mv (.const (.int .i64 (.ofNat 0))), some 2, none⟩, []⟩])
  (.seq (.seq (.region false [⟨⟨.mv (.slot 0), some 3, none⟩, []⟩,
    ⟨⟨.bin .eql 22 .ptr (.slot 3) (.const .nilp), some 4, none⟩, []⟩])
  (.cond (.slot 4)
   (.seq (.region false [⟨⟨.mv (.const (.int .i64 (.ofNat 0))), some 2, none⟩, []⟩])
   .ret)
   .skip))
  (.seq (.region false [⟨⟨.mv (.slot 0), some 5, none⟩, []⟩,
    ⟨⟨.nilCheck (.slot 5), some 6, none⟩, []⟩,
    ⟨⟨.faddr 4 (.slot 6), some 7, none⟩, []⟩,
    ⟨⟨.load false 1 (.slot 7), some 8, none⟩, []⟩,
    ⟨⟨.mv (.slot 8), some 2, none⟩, []⟩])
  .ret))),
  [.tmp 2]⟩
theorem xf12_ok : compFunc Try.prog Try.f12 = some xf12 := by kernel_rfl
/-- threshing/subsume.look -/
def xf13 : XFunc := ⟨(.seq (.region false [⟨⟨.box (.slot 1), some 3, none⟩, []⟩,
    ⟨⟨.mv (.const (.bool false)), some 4, none⟩, []⟩,
    ⟨⟨.mv (.const (.int .i64 (.ofNat 0))), some 5, none⟩, []⟩])
  (.scope (.seq (.region false [⟨⟨.mkmap .i32, some 21, none⟩, []⟩,
    ⟨⟨.mv (.slot 21), some 6, none⟩, []⟩])
  (.seq (.seq (.region false [⟨⟨.faddr 1 (.slot 3), some 22, none⟩, []⟩,
    ⟨⟨.load false 1 (.slot 22), some 23, none⟩, []⟩,
    ⟨⟨.len .slice (.slot 23), some 24, none⟩, []⟩,
    ⟨⟨.mv (.const (.int .i64 (.ofNat 0))), some 25, none⟩, []⟩])
  (.block 0 (.loop (.seq (.region false [⟨⟨.bin .lss 3 .num (.slot 25) (.slot 24), some 26, none⟩, []⟩])
   (.seq (.cond (.slot 26)
    .skip
    (.exit 0))
   (.seq (.block 1 (.seq (.region false [⟨⟨.iaddr 1 (.slot 23) (.slot 25), some 27, none⟩, []⟩,
     ⟨⟨.load false 1 (.slot 27), some 28, none⟩, []⟩,
     ⟨⟨.mv (.slot 28), some 8, none⟩, []⟩])
   (.region false [⟨⟨.mv (.slot 6), some 29, none⟩, []⟩,
     ⟨⟨.mv (.slot 8), some 30, none⟩, []⟩,
     ⟨⟨.mapup .i32 (.slot 29) (.slot 30) (.const (.bool true)), none, none⟩, []⟩])))
   (.region false [⟨⟨.bin .add 3 .num (.slot 25) (.const (.int .i64 (.ofNat 1))), some 31, none⟩, []⟩,
     ⟨⟨.mv (.slot 31), some 25, none⟩, []⟩])))))))
  (.seq (.region false [⟨⟨.alloc [(.int .i64 (.ofNat 0)), .nils, (.bool false)], some 9, none⟩, []⟩])
  (.seq (.region false [⟨⟨.alloc [(.int .i32 (.ofNat 0))], some 10, none⟩, []⟩])
  (.seq .label
  (.seq (.seq (.region false [⟨⟨.mv (.slot 0), some 32, none⟩, []⟩,
    ⟨⟨.faddr 1 (.slot 3), some 33, none⟩, []⟩,
    ⟨⟨.load false 1 (.slot 33), some 34, none⟩, []⟩,
    ⟨⟨.call (.const (.func 25 [] [])) [(.slot 32), (.slot 34)], some 35, none⟩, []⟩,
    ⟨⟨.len .slice (.slot 35), some 36, none⟩, []⟩,
    ⟨⟨.mv (.const (.int .i64 (.ofNat 0))), some 37, none⟩, []⟩])
  (.block 2 (.loop (.seq (.region false [⟨⟨.bin .lss 3 .num (.slot 37) (.slot 36), some 38, none⟩, []⟩])
   (.seq (.cond (.slot 38)
    .skip
    (.exit 2))
   (.seq (.block 3 (.seq (.region false [⟨⟨.iaddr 1 (.slot 35) (.slot 37), some 39, none⟩, []⟩,
     ⟨⟨.load false 1 (.slot 39), some 40, none⟩, []⟩,
     ⟨⟨.mv (.slot 40), some 12, none⟩, []⟩])
   (.seq (.region false [⟨⟨.mv (.slot 0), some 42, none⟩, []⟩,
     ⟨⟨.mv (.slot 12), some 43, none⟩, []⟩,
     ⟨⟨.call (.const (.func 9 [] [])) [(.slot 42), (.slot 43)], some 44, none⟩, []⟩,
     ⟨⟨.mv (.slot 44), some 41, none⟩, []⟩,
     ⟨⟨.extract (.slot 41) 0, some 45, none⟩, []⟩,
     ⟨⟨.extract (.slot 41) 1, some 46, none⟩, []⟩,
     ⟨⟨.alloc [(.int .i64 (.ofNat 0)), .nils, (.bool false)], some 13, none⟩, []⟩,
     ⟨⟨.store 3 (.slot 13) (.slot 45), none, none⟩, []⟩,
     ⟨⟨.mv (.slot 46), some 14, none⟩, []⟩])
   (.seq (.seq (.region false [⟨⟨.faddr 1 (.slot 13), some 48, none⟩, []⟩,
     ⟨⟨.load false 1 (.slot 48), some 49, none⟩, []⟩,
     ⟨⟨.mv (.slot 6), some 50, none⟩, []⟩,
     ⟨⟨.call (.const (.func 26 [] [])) [(.slot 49), (.slot 50)], some 51, none⟩, []⟩,
     ⟨⟨.mv (.slot 51), some 47, none⟩, []⟩,
     ⟨⟨.extract (.slot 47) 0, some 52, none⟩, []⟩,
     ⟨⟨.extract (.slot 47) 1, some 53, none⟩, []⟩,
     ⟨⟨.mv (.slot 52), some 15, none⟩, []⟩,
     ⟨⟨.mv (.slot 53), some 16, none⟩, []⟩])
   (.block 4 (.seq (.region false [⟨⟨.mv (.slot 12), some 55, none⟩, []⟩,
     ⟨⟨.faddr 0 (.slot 3), some 56, none⟩, []⟩,
     ⟨⟨.load false 1 (.slot 56), some 57, none⟩, []⟩,
     ⟨⟨.bin .eql 2 .num (.slot 55) (.slot 57), some 58, none⟩, []⟩,
     ⟨⟨.mv (.slot 58), some 59, none⟩, []⟩,
     ⟨⟨.mv (.slot 16), some 60, some (59, false)⟩, []⟩,
     ⟨⟨.bin .gtr 3 .num (.slot 60) (.const (.int .i64 (.ofNat 0))), some 61, some (59, false)⟩, []⟩,
     ⟨⟨.pick (.slot 59) (.const (.bool true)) (.slot 61), some 62, none⟩, []⟩,
     ⟨⟨.mv (.slot 62), some 54, none⟩, []⟩])
   (.cond (.slot 54)
    (.exit 3)
    (.seq (.region false [⟨⟨.mv (.slot 15), some 64, none⟩, []⟩,
      ⟨⟨.bin .eql 24 .num (.slot 64) (.const (.int .i32 (.ofNat 0))), some 65, none⟩, []⟩,
      ⟨⟨.mv (.slot 65), some 66, none⟩, []⟩,
      ⟨⟨.mv (.slot 12), some 67, some (66, true)⟩, []⟩,
      ⟨⟨.faddr 0 (.slot 3), some 68, some (66, true)⟩, []⟩,
      ⟨⟨.load false 1 (.slot 68), some 69, some (66, true)⟩, []⟩,
      ⟨⟨.bin .lss 2 .num (.slot 67) (.slot 69), some 70, some (66, true)⟩, []⟩,
      ⟨⟨.mv (.slot 70), some 71, some (66, true)⟩, []⟩,
      ⟨⟨.faddr 1 (.slot 3), some 72, some (71, false)⟩, []⟩,
      ⟨⟨.load false 1 (.slot 72), some 73, some (71, false)⟩, []⟩,
      ⟨⟨.faddr 1 (.slot 13), some 74, some (71, false)⟩, []⟩,
      ⟨⟨.load false 1 (.slot 74), some 75, some (71, false)⟩, []⟩,
      ⟨⟨.call (.const (.func 27 [] [])) [(.slot 73), (.slot 75)], some 76, some (71, false)⟩, []⟩,
      ⟨⟨.un .not (.slot 76), some 77, some (71, false)⟩, []⟩,
      ⟨⟨.pick (.slot 71) (.const (.bool true)) (.slot 77), some 78, some (66, true)⟩, []⟩,
      ⟨⟨.pick (.slot 66) (.slot 78) (.const (.bool false)), some 79, none⟩, []⟩,
      ⟨⟨.mv (.slot 79), some 63, none⟩, []⟩])
    (.cond (.slot 63)
     (.seq (.region false [⟨⟨.mv (.slot 0), some 80, none⟩, []⟩,
       ⟨⟨.faddr 0 (.slot 3), some 81, none⟩, []⟩,
       ⟨⟨.load false 1 (.slot 81), some 82, none⟩, []⟩,
       ⟨⟨.mv (.slot 12), some 83, none⟩, []⟩,
       ⟨⟨.call (.const (.func 28 [] [])) [(.slot 80), (.slot 82), (.slot 83)], some 84, none⟩, []⟩,
       ⟨⟨.mv (.const (.bool true)), some 4, none⟩, []⟩,
       ⟨⟨.mv (.slot 84), some 5, none⟩, []⟩])
     .ret)
     .skip))))))
   (.seq (.region false [⟨⟨.faddr 1 (.slot 13), some 85, none⟩, []⟩,
     ⟨⟨.load false 1 (.slot 85), some 86, none⟩, []⟩,
     ⟨⟨.mv (.slot 6), some 87, none⟩, []⟩,
     ⟨⟨.call (.const (.func 29 [] [])) [(.slot 86), (.slot 87)], some 88, none⟩, []⟩,
     ⟨⟨.mv (.slot 88), some 17, none⟩, []⟩])
   (.seq (.region false [⟨⟨.mv (.slot 17), some 89, none⟩, []⟩,
     ⟨⟨.bin .neq 24 .num (.slot 89) (.const (.int .i32 (.ofNat 0))), some 90, none⟩, []⟩,
     ⟨⟨.mv (.slot 90), some 91, none⟩, []⟩,
     ⟨⟨.load false 1 (.slot 10), some 92, some (91, true)⟩, []⟩,
     ⟨⟨.bin .eql 24 .num (.slot 92) (.const (.int .i32 (.ofNat 0))), some 93, some (91, true)⟩, []⟩,
     ⟨⟨.pick (.slot 91) (.slot 93) (.const (.bool false)), some 94, none⟩, []⟩])
   (.cond (.slot 94)
    (.region false [⟨⟨.load true 3 (.slot 13), some 95, none⟩, []⟩,
      ⟨⟨.mv (.slot 17), some 96, none⟩, []⟩,
      ⟨⟨.store 3 (.slot 9) (.slot 95), none, none⟩, []⟩,
      ⟨⟨.store 1 (.slot 10) (.slot 96), none, none⟩, []⟩])
    .skip)))))))
   (.region false [⟨⟨.bin .add 3 .num (.slot 37) (.const (.int .i64 (.ofNat 1))), some 97, none⟩, []⟩,
     ⟨⟨.mv (.slot 97), some 37, none⟩, []⟩])))))))
  (.seq (.seq (.region false [⟨⟨.load false 1 (.slot 10), some 98, none⟩, []⟩,
    ⟨⟨.bin .eql 24 .num (.slot 98) (.const (.int .i32 (.ofNat 0))), some 99, none⟩, []⟩])
  (.cond (.slot 99)
   (.seq (.region false [⟨⟨.mv (.const (.bool false)), some 4, none⟩, []⟩,
     ⟨⟨.mv (.const (.int .i64 (.ofNat 0))), some 5, none⟩, []⟩])
   .ret)
   .skip))
  (.seq (.region false [⟨⟨.faddr 1 (.slot 3), some 100, none⟩, []⟩,
    ⟨⟨.load false 1 (.slot 100), some 101, none⟩, []⟩,
    ⟨⟨.call (.const (.func 21 [] [])) [(.slot 101)], some 102, none⟩, []⟩,
    ⟨⟨.mkfunc 31 [] [(.slot 10)], some 103, none⟩, []⟩,
    ⟨⟨.call (.const (.func 30 [] [])) [(.slot 102), (.slot 103)], some 104, none⟩, []⟩,
    ⟨⟨.mv (.slot 104), some 18, none⟩, []⟩])
  (.seq (.region false [⟨⟨.mv (.slot 0), some 106, none⟩, []⟩,
    ⟨⟨.mv (.slot 18), some 107, none⟩, []⟩,
    ⟨⟨.faddr 0 (.slot 9), some 108, none⟩, []⟩,
    ⟨⟨.load false 1 (.slot 108), some 109, none⟩, []⟩,
    ⟨⟨.faddr 0 (.slot 3), some 110, none⟩, []⟩,
    ⟨⟨.load false 1 (.slot 110), some 111, none⟩, []⟩,
    ⟨⟨.bslice 1 [(.int .i64 (.ofNat 0)), (.int .i64 (.ofNat 0))] [(0, 1, (.slot 109)), (1, 1, (.slot 111))] 2, some 112, none⟩, []⟩,
    ⟨⟨.faddr 2 (.slot 3), some 113, none⟩, []⟩,
    ⟨⟨.load false 1 (.slot 113), some 114, none⟩, []⟩,
    ⟨⟨.call (.const (.func 8 [] [])) [(.slot 106), (.slot 107), (.slot 112), (.slot 114)], some 115, none⟩, []⟩,
    ⟨⟨.mv (.slot 115), some 105, none⟩, []⟩,
    ⟨⟨.extract (.slot 105) 0, some 116, none⟩, []⟩,
    ⟨⟨.extract (.slot 105) 1, some 117, none⟩, []⟩,
    ⟨⟨.mv (.slot 116), some 19, none⟩, []⟩,
    ⟨⟨.mv (.slot 117), some 20, none⟩, []⟩])
  (.seq (.seq (.region false [⟨⟨.mv (.slot 20), some 118, none⟩, []⟩,
    ⟨⟨.bin .neq 27 .num (.slot 118) (.const (.int .i64 (.ofNat 0))), some 119, none⟩, []⟩])
  (.cond (.slot 119)
   (.seq (.region false [⟨⟨.mv (.slot 20), some 120, none⟩, []⟩,
     ⟨⟨.mv (.const (.bool false)), some 4, none⟩, []⟩,
     ⟨⟨.mv (.slot 120), some 5, none⟩, []⟩])
   .ret)
   .skip))
  (.seq (.region false [⟨⟨.mv (.slot 0), some 121, none⟩, []⟩,
    ⟨⟨.faddr 0 (.slot 3), some 122, none⟩, []⟩,
    ⟨⟨.load false 1 (.slot 122), some 123, none⟩, []⟩,
    ⟨⟨.mv (.slot 19), some 124, none⟩, []⟩,
    ⟨⟨.call (.const (.func 28 [] [])) [(.slot 121), (.slot 123), (.slot 124)], some 125, none⟩, []⟩,
    ⟨⟨.mv (.const (.bool true)), some 4, none⟩, []⟩,
    ⟨⟨.mv (.slot 125), some 5, none⟩, []⟩])
  .ret))))))))))))),
  [.tmp 4, .tmp 5]⟩
theorem xf13_ok : compFunc Try.prog Try.f13 = some xf13 := by kernel_rfl
/-- slices.Sorted[int64] -/
def xf14 : XFunc := ⟨(.seq (.region false [⟨⟨.mv (.const .nils), some 2, none⟩, []⟩])
  (.seq (.region false [⟨⟨.mv (.slot 0), some 4, none⟩, []⟩,
    ⟨⟨.call (.const (.func 32 [] [])) [(.slot 4)], some 5, none⟩, []⟩,
    ⟨⟨.mv (.slot 5), some 3, none⟩, []⟩])
  (.seq (.region false [⟨⟨.mv (.slot 3), some 6, none⟩, []⟩,
    ⟨⟨.call (.const (.func 33 [] [])) [(.slot 6)], some 7, none⟩, []⟩])
  (.seq (.region false [⟨⟨.mv (.slot 3), some 8, none⟩, []⟩,
    ⟨⟨.mv (.slot 8), some 2, none⟩, []⟩])
  .ret)))),
  [.tmp 2]⟩
theorem xf14_ok : compFunc Try.prog Try.f14 = some xf14 := by kernel_rfl
/-- maps.Keys[map[int64]threshing/api.Entry,int64,threshing/api.Entry] -/
def xf15 : XFunc := ⟨(.seq (.region false [⟨⟨.box (.slot 0), some 1, none⟩, []⟩,
    ⟨⟨.mv (.const .nilf), some 2, none⟩, []⟩])
  (.seq (.region false [⟨⟨.mkfunc 34 [] [(.slot 1)], some 3, none⟩, []⟩,
    ⟨⟨.mv (.slot 3), some 2, none⟩, []⟩])
  .ret)),
  [.tmp 2]⟩
theorem xf15_ok : compFunc Try.prog Try.f15 = some xf15 := by kernel_rfl
/-- threshing/base.entry -/
def xf16 : XFunc := ⟨(.seq (.region false [⟨⟨.box (.slot 0), some 1, none⟩, []⟩,
    ⟨⟨.alloc [(.int .i64 (.ofNat 0)), .nils, (.bool false)], some 2, none⟩, []⟩])
  (.seq (.region false [⟨⟨.faddr 1 (.slot 1), some 3, none⟩, []⟩,
    ⟨⟨.load false 1 (.slot 3), some 4, none⟩, []⟩,
    ⟨⟨.call (.const (.func 21 [] [])) [(.slot 4)], some 5, none⟩, []⟩,
    ⟨⟨.faddr 1 (.slot 1), some 6, none⟩, []⟩,
    ⟨⟨.store 1 (.slot 6) (.slot 5), none, none⟩, []⟩])
  (.seq (.region false [⟨⟨.load true 3 (.slot 1), some 7, none⟩, []⟩,
    ⟨⟨.store 3 (.slot 2) (.slot 7), none, none⟩, []⟩])
  .ret))),
  [.cell 2 true 3]⟩
theorem xf16_ok : compFunc Try.prog Try.f16 = some xf16 := by kernel_rfl
/-- (*threshing/base.Base).full -/
def xf17 : XFunc := ⟨(.seq (.region false [⟨⟨.mv (.const (.bool false)), some 2, none⟩, []⟩])
  (.seq (.region false [⟨⟨.mv (.slot 0), some 3, none⟩, []⟩,
    ⟨⟨.nilCheck (.slot 3), some 4, none⟩, []⟩,
    ⟨⟨.faddr 5 (.slot 4), some 5, none⟩, []⟩,
    ⟨⟨.load false 1 (.slot 5), some 6, none⟩, []⟩,
    ⟨⟨.len .slice (.slot 6), some 7, none⟩, []⟩,
    ⟨⟨.bin .geq 3 .num (.slot 7) (.const (.int .i64 (.ofNat 4194304))), some 8, none⟩, []⟩,
    ⟨⟨.mv (.slot 8), some 2, none⟩, []⟩])
  .ret)),
  [.tmp 2]⟩
theorem xf17_ok : compFunc Try.prog Try.f17 = some xf17 := by kernel_rfl
/-- (*threshing/base.Base).right -/
def xf18 : XFunc := ⟨(.seq (.region false [⟨⟨.box (.slot 0), some 2, none⟩, []⟩,
    ⟨⟨.mv (.const (.bool false)), some 4, none⟩, []⟩])
  (.seq (.region false [⟨⟨.mv (.slot 1), some 5, none⟩, []⟩,
    ⟨⟨.mkfunc 36 [] [(.slot 2)], some 6, none⟩, []⟩,
    ⟨⟨.call (.const (.func 35 [] [])) [(.slot 5), (.slot 6)], some 7, none⟩, []⟩,
    ⟨⟨.un .not (.slot 7), some 8, none⟩, []⟩,
    ⟨⟨.mv (.slot 8), some 4, none⟩, []⟩])
  .ret)),
  [.tmp 4]⟩
theorem xf18_ok : compFunc Try.prog Try.f18 = some xf18 := by kernel_rfl
/-- (*threshing/base.Base).follows -/
def xf19 : XFunc := ⟨(.seq (.region false [⟨⟨.mv (.const (.int .i64 (.ofNat 0))), some 6, none⟩, []⟩])
  (.seq (.region false [⟨⟨.mkmap .i32, some 18, none⟩, []⟩,
    ⟨⟨.alloc [.nilm], some 7, none⟩, []⟩,
    ⟨⟨.store 1 (.slot 7) (.slot 18), none, none⟩, []⟩])
  (.seq (.region false [⟨⟨.mkfunc 38 [] [(.slot 7)], some 19, none⟩, []⟩,
    ⟨⟨.mv (.slot 19), some 8, none⟩, []⟩])
  (.seq (.seq (.region false [⟨⟨.mv (.slot 1), some 20, none⟩, []⟩,
    ⟨⟨.len .slice (.slot 20), some 21, none⟩, []⟩,
    ⟨⟨.mv (.const (.int .i64 (.ofNat 0))), some 22, none⟩, []⟩])
  (.block 0 (.loop (.seq (.region false [⟨⟨.bin .lss 3 .num (.slot 22) (.slot 21), some 23, none⟩, []⟩])
   (.seq (.cond (.slot 23)
    .skip
    (.exit 0))
   (.seq (.block 1 (.seq (.region false [⟨⟨.iaddr 1 (.slot 20) (.slot 22), some 24, none⟩, []⟩,
     ⟨⟨.load false 1 (.slot 24), some 25, none⟩, []⟩,
     ⟨⟨.mv (.slot 25), some 10, none⟩, []⟩])
   (.seq (.region false [⟨⟨.mv (.slot 8), some 26, none⟩, []⟩,
     ⟨⟨.mv (.slot 10), some 27, none⟩, []⟩,
     ⟨⟨.call (.slot 26) [(.slot 27)], some 28, none⟩, []⟩])
   (.cond (.slot 28)
    (.seq (.region false [⟨⟨.mv (.const (.int .i64 (.ofNat 0))), some 6, none⟩, []⟩])
    .ret)
    .skip))))
   (.region false [⟨⟨.bin .add 3 .num (.slot 22) (.const (.int .i64 (.ofNat 1))), some 29, none⟩, []⟩,
     ⟨⟨.mv (.slot 29), some 22, none⟩, []⟩])))))))
  (.seq (.seq (.region false [⟨⟨.mv (.slot 2), some 30, none⟩, []⟩,
    ⟨⟨.len .slice (.slot 30), some 31, none⟩, []⟩,
    ⟨⟨.mv (.const (.int .i64 (.ofNat 0))), some 32, none⟩, []⟩])
  (.block 2 (.loop (.seq (.region false [⟨⟨.bin .lss 3 .num (.slot 32) (.slot 31), some 33, none⟩, []⟩])
   (.seq (.cond (.slot 33)
    .skip
    (.exit 2))
   (.seq (.block 3 (.seq (.region false [⟨⟨.iaddr 1 (.slot 30) (.slot 32), some 34, none⟩, []⟩,
     ⟨⟨.load false 1 (.slot 34), some 35, none⟩, []⟩,
     ⟨⟨.mv (.slot 35), some 12, none⟩, []⟩])
   (.seq (.region false [⟨⟨.mv (.slot 0), some 37, none⟩, []⟩,
     ⟨⟨.nilCheck (.slot 37), some 38, none⟩, []⟩,
     ⟨⟨.faddr 1 (.slot 38), some 39, none⟩, []⟩,
     ⟨⟨.load false 1 (.slot 39), some 40, none⟩, []⟩,
     ⟨⟨.mv (.slot 12), some 41, none⟩, []⟩,
     ⟨⟨.lookup .i64 (.agg [(.int .i64 (.ofNat 0)), .nils, (.bool false)]) (.slot 40) (.slot 41) true, some 42, none⟩, []⟩,
     ⟨⟨.mv (.slot 42), some 36, none⟩, []⟩,
     ⟨⟨.extract (.slot 36) 0, some 43, none⟩, []⟩,
     ⟨⟨.extract (.slot 36) 1, some 44, none⟩, []⟩,
     ⟨⟨.alloc [(.int .i64 (.ofNat 0)), .nils, (.bool false)], some 13, none⟩, []⟩,
     ⟨⟨.store 3 (.slot 13) (.slot 43), none, none⟩, []⟩,
     ⟨⟨.mv (.slot 44), some 14, none⟩, []⟩])
   (.seq (.seq (.region false [⟨⟨.mv (.slot 14), some 45, none⟩, []⟩,
     ⟨⟨.un .not (.slot 45), some 46, none⟩, []⟩])
   (.cond (.slot 46)
    (.seq (.region false [⟨⟨.mv (.const (.int .i64 (.ofNat 60))), some 6, none⟩, []⟩])
    .ret)
    .skip))
   (.seq (.region false [⟨⟨.mv (.const (.int .i32 (.ofNat 0))), some 15, none⟩, []⟩])
   (.seq (.seq (.region false [⟨⟨.faddr 1 (.slot 13), some 47, none⟩, []⟩,
     ⟨⟨.load false 1 (.slot 47), some 48, none⟩, []⟩,
     ⟨⟨.len .slice (.slot 48), some 49, none⟩, []⟩,
     ⟨⟨.mv (.const (.int .i64 (.ofNat 0))), some 50, none⟩, []⟩])
   (.block 4 (.loop (.seq (.region false [⟨⟨.bin .lss 3 .num (.slot 50) (.slot 49), some 51, none⟩, []⟩])
    (.seq (.cond (.slot 51)
     .skip
     (.exit 4))
    (.seq (.block 5 (.seq (.region false [⟨⟨.iaddr 1 (.slot 48) (.slot 50), some 52, none⟩, []⟩,
      ⟨⟨.load false 1 (.slot 52), some 53, none⟩, []⟩,
      ⟨⟨.mv (.slot 53), some 17, none⟩, []⟩])
    (.block 6 (.seq (.seq (.region false [⟨⟨.load false 1 (.slot 7), some 56, none⟩, []⟩,
      ⟨⟨.mv (.slot 17), some 57, none⟩, []⟩,
      ⟨⟨.lookup .i32 (.bool false) (.slot 56) (.slot 57) false, some 58, none⟩, []⟩,
      ⟨⟨.mv (.slot 58), some 55, none⟩, []⟩])
    (.cond (.slot 55)
     .skip
     (.region false [⟨⟨.mv (.slot 17), some 59, none⟩, []⟩,
       ⟨⟨.mv (.slot 15), some 60, none⟩, []⟩,
       ⟨⟨.bin .eql 24 .num (.slot 59) (.slot 60), some 61, none⟩, []⟩,
       ⟨⟨.mv (.slot 61), some 55, none⟩, []⟩])))
    (.cond (.slot 55)
     .skip
     (.seq (.region false [⟨⟨.mv (.slot 15), some 63, none⟩, []⟩,
       ⟨⟨.bin .neq 24 .num (.slot 63) (.const (.int .i32 (.ofNat 0))), some 64, none⟩, []⟩,
       ⟨⟨.mv (.slot 64), some 62, none⟩, []⟩])
     (.cond (.slot 62)
      (.seq (.region false [⟨⟨.mv (.const (.int .i64 (.ofNat 60))), some 6, none⟩, []⟩])
      .ret)
      (.region false [⟨⟨.mv (.slot 17), some 54, none⟩, []⟩,
        ⟨⟨.mv (.slot 54), some 15, none⟩, []⟩]))))))))
    (.region false [⟨⟨.bin .add 3 .num (.slot 50) (.const (.int .i64 (.ofNat 1))), some 65, none⟩, []⟩,
      ⟨⟨.mv (.slot 65), some 50, none⟩, []⟩])))))))
   (.seq (.block 7 (.seq (.region false [⟨⟨.mv (.slot 15), some 67, none⟩, []⟩,
     ⟨⟨.bin .eql 24 .num (.slot 67) (.const (.int .i32 (.ofNat 0))), some 68, none⟩, []⟩,
     ⟨⟨.mv (.slot 68), some 66, none⟩, []⟩])
   (.cond (.slot 66)
    (.seq (.region false [⟨⟨.mv (.const (.int .i64 (.ofNat 0))), some 6, none⟩, []⟩])
    .ret)
    (.seq (.region false [⟨⟨.load false 1 (.slot 7), some 70, none⟩, []⟩,
      ⟨⟨.mv (.slot 15), some 71, none⟩, []⟩,
      ⟨⟨.un .neg (.slot 71), some 72, none⟩, []⟩,
      ⟨⟨.lookup .i32 (.bool false) (.slot 70) (.slot 72) false, some 73, none⟩, []⟩,
      ⟨⟨.mv (.slot 73), some 69, none⟩, []⟩])
    (.cond (.slot 69)
     (.seq (.region false [⟨⟨.mv (.const (.int .i64 (.ofNat 60))), some 6, none⟩, []⟩])
     .ret)
     .skip)))))
   (.region false [⟨⟨.mv (.slot 8), some 74, none⟩, []⟩,
     ⟨⟨.mv (.slot 15), some 75, none⟩, []⟩,
     ⟨⟨.un .neg (.slot 75), some 76, none⟩, []⟩,
     ⟨⟨.call (.slot 74) [(.slot 76)], some 77, none⟩, []⟩]))))))))
   (.region false [⟨⟨.bin .add 3 .num (.slot 32) (.const (.int .i64 (.ofNat 1))), some 78, none⟩, []⟩,
     ⟨⟨.mv (.slot 78), some 32, none⟩, []⟩])))))))
  (.seq (.region false [⟨⟨.mv (.const (.int .i64 (.ofNat 61))), some 6, none⟩, []⟩])
  .ret)))))),
  [.tmp 6]⟩
theorem xf19_ok : compFunc Try.prog Try.f19 = some xf19 := by kernel_rfl
/-- (*threshing/base.Base).put -/
def xf20 : XFunc := ⟨(.seq (.region false [⟨⟨.mv (.slot 0), some 8, none⟩, []⟩,
    ⟨⟨.nilCheck (.slot 8), some 9, none⟩, []⟩,
    ⟨⟨.faddr 4 (.slot 9), some 10, none⟩, []⟩,
    ⟨⟨.load false 1 (.slot 10), some 11, none⟩, []⟩,
    ⟨⟨.bin .add 2 .num (.slot 11) (.const (.int .i64 (.ofNat 1))), some 12, none⟩, []⟩,
    ⟨⟨.nilCheck (.slot 8), some 13, none⟩, []⟩,
    ⟨⟨.faddr 4 (.slot 13), some 14, none⟩, []⟩,
    ⟨⟨.store 1 (.slot 14) (.slot 12), none, none⟩, []⟩])
  (.seq (.region true [⟨⟨.mv (.slot 0), some 15, none⟩, []⟩,
    ⟨⟨.nilCheck (.slot 15), some 16, none⟩, []⟩,
    ⟨⟨.faddr 1 (.slot 16), some 17, none⟩, []⟩,
    ⟨⟨.load false 1 (.slot 17), some 18, none⟩, []⟩,
    ⟨⟨.mv (.slot 0), some 19, none⟩, []⟩,
    ⟨⟨.nilCheck (.slot 19), some 20, none⟩, []⟩,
    ⟨⟨.faddr 4 (.slot 20), some 21, none⟩, []⟩,
    ⟨⟨.load false 1 (.slot 21), some 22, none⟩, []⟩,
    ⟨⟨.mv (.slot 0), some 23, none⟩, []⟩,
    ⟨⟨.nilCheck (.slot 23), some 24, none⟩, []⟩,
    ⟨⟨.faddr 4 (.slot 24), some 25, none⟩, []⟩,
    ⟨⟨.load false 1 (.slot 25), some 26, none⟩, []⟩,
    ⟨⟨.mv (.slot 1), some 27, none⟩, []⟩,
    ⟨⟨.mv (.slot 2), some 29, none⟩, []⟩,
    ⟨⟨.call (.const (.func 21 [] [])) [(.slot 27)], some 28, none⟩, [⟨.load false 1 (.slot 17), some 18, none⟩, ⟨.load false 1 (.slot 21), some 22, none⟩, ⟨.load false 1 (.slot 25), some 26, none⟩]⟩,
    ⟨⟨.build [(.int .i64 (.ofNat 0)), .nils, (.bool false)] [(0, 1, (.slot 26)), (1, 1, (.slot 28)), (2, 1, (.slot 29))], some 30, none⟩, []⟩,
    ⟨⟨.mapup .i64 (.slot 18) (.slot 22) (.slot 30), none, none⟩, []⟩])
  (.seq (.seq (.region false [⟨⟨.mv (.slot 1), some 31, none⟩, []⟩,
    ⟨⟨.len .slice (.slot 31), some 32, none⟩, []⟩,
    ⟨⟨.bin .eql 3 .num (.slot 32) (.const (.int .i64 (.ofNat 0))), some 33, none⟩, []⟩])
  (.cond (.slot 33)
   (.region true [⟨⟨.mv (.slot 0), some 34, none⟩, []⟩,
     ⟨⟨.nilCheck (.slot 34), some 35, none⟩, []⟩,
     ⟨⟨.faddr 3 (.slot 35), some 36, none⟩, []⟩,
     ⟨⟨.load false 1 (.slot 36), some 37, none⟩, []⟩,
     ⟨⟨.mv (.slot 0), some 38, none⟩, []⟩,
     ⟨⟨.nilCheck (.slot 38), some 39, none⟩, []⟩,
     ⟨⟨.faddr 4 (.slot 39), some 40, none⟩, []⟩,
     ⟨⟨.load false 1 (.slot 40), some 41, none⟩, []⟩,
     ⟨⟨.mapup .i64 (.slot 37) (.slot 41) (.const (.bool true)), none, none⟩, []⟩])
   .skip))
  (.seq (.region false [⟨⟨.mv (.slot 1), some 42, none⟩, []⟩,
    ⟨⟨.len .slice (.slot 42), some 43, none⟩, []⟩,
    ⟨⟨.mv (.const (.int .i64 (.ofNat 0))), some 44, none⟩, []⟩])
  (.block 0 (.loop (.seq (.region false [⟨⟨.bin .lss 3 .num (.slot 44) (.slot 43), some 45, none⟩, []⟩])
   (.seq (.cond (.slot 45)
    .skip
    (.exit 0))
   (.seq (.block 1 (.seq (.region false [⟨⟨.iaddr 1 (.slot 42) (.slot 44), some 46, none⟩, []⟩,
     ⟨⟨.load false 1 (.slot 46), some 47, none⟩, []⟩,
     ⟨⟨.mv (.slot 47), some 7, none⟩, []⟩])
   (.seq (.seq (.region false [⟨⟨.mv (.slot 0), some 48, none⟩, []⟩,
     ⟨⟨.nilCheck (.slot 48), some 49, none⟩, []⟩,
     ⟨⟨.faddr 2 (.slot 49), some 50, none⟩, []⟩,
     ⟨⟨.load false 1 (.slot 50), some 51, none⟩, []⟩,
     ⟨⟨.mv (.slot 7), some 52, none⟩, []⟩,
     ⟨⟨.lookup .i32 .nilm (.slot 51) (.slot 52) false, some 53, none⟩, []⟩,
     ⟨⟨.bin .eql 55 .map (.slot 53) (.const .nilm), some 54, none⟩, []⟩])
   (.cond (.slot 54)
    (.region false [⟨⟨.mv (.slot 0), some 55, none⟩, []⟩,
      ⟨⟨.nilCheck (.slot 55), some 56, none⟩, []⟩,
      ⟨⟨.faddr 2 (.slot 56), some 57, none⟩, []⟩,
      ⟨⟨.load false 1 (.slot 57), some 58, none⟩, []⟩,
      ⟨⟨.mv (.slot 7), some 59, none⟩, []⟩,
      ⟨⟨.mkmap .i64, some 60, none⟩, []⟩,
      ⟨⟨.mapup .i32 (.slot 58) (.slot 59) (.slot 60), none, none⟩, []⟩])
    .skip))
   (.region true [⟨⟨.mv (.slot 0), some 61, none⟩, []⟩,
     ⟨⟨.nilCheck (.slot 61), some 62, none⟩, []⟩,
     ⟨⟨.faddr 2 (.slot 62), some 63, none⟩, []⟩,
     ⟨⟨.load false 1 (.slot 63), some 64, none⟩, []⟩,
     ⟨⟨.mv (.slot 7), some 65, none⟩, []⟩,
     ⟨⟨.lookup .i32 .nilm (.slot 64) (.slot 65) false, some 66, none⟩, []⟩,
     ⟨⟨.mv (.slot 0), some 67, none⟩, []⟩,
     ⟨⟨.nilCheck (.slot 67), some 68, none⟩, []⟩,
     ⟨⟨.faddr 4 (.slot 68), some 69, none⟩, []⟩,
     ⟨⟨.load false 1 (.slot 69), some 70, none⟩, []⟩,
     ⟨⟨.mapup .i64 (.slot 66) (.slot 70) (.const (.bool true)), none, none⟩, []⟩]))))
   (.region false [⟨⟨.bin .add 3 .num (.slot 44) (.const (.int .i64 (.ofNat 1))), some 71, none⟩, []⟩,
     ⟨⟨.mv (.slot 71), some 44, none⟩, []⟩])))))))))),
  []⟩
theorem xf20_ok : compFunc Try.prog Try.f20 = some xf20 := by kernel_rfl
end Go.Proofs.Ytecpenjafajfcaa

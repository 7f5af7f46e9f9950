/- The functions of the program in X's code, printed by a program of ours; each is what the program's own is turned to. -/
import Derived.Test.YtfcafnbpkapikaaGreatProg
import Derived.Test.YtfcafnbpkapikaaGreatXc
import Derived.KernelRfl
namespace Go.Proofs.YtfcafnbpkapikaaGreat
open Go.Xr
/-- gosem.cut.init -/
def xf2 : XFunc := ⟨(.region false [⟨⟨.call (.const (.func 1 [] [])) [], some 0, none⟩, []⟩]),
  []⟩
theorem xf2_ok : compFunc Tryz.prog Tryz.f2 = some xf2 := by kernel_rfl
/-- threshing/threshinglaw21.ProbeKnown -/
def xf3 : XFunc := ⟨(.seq (.region false [⟨⟨.mv (.const (.bool false)), some 0, none⟩, []⟩])
  (.seq (.region false [⟨⟨.bslice 1 [(.int .i32 (.ofNat 0)), (.int .i32 (.ofNat 0))] [(0, 1, (.const (.int .i32 (.negSucc 0)))), (1, 1, (.const (.int .i32 (.ofNat 2))))] 2, some 26, none⟩, []⟩,
    ⟨⟨.bslice 1 [(.int .i32 (.ofNat 0)), (.int .i32 (.ofNat 0))] [(0, 1, (.const (.int .i32 (.ofNat 1)))), (1, 1, (.const (.int .i32 (.ofNat 2))))] 2, some 27, none⟩, []⟩,
    ⟨⟨.bslice 1 [(.int .i32 (.ofNat 0)), (.int .i32 (.ofNat 0)), (.int .i32 (.ofNat 0))] [(0, 1, (.const (.int .i32 (.negSucc 1)))), (1, 1, (.const (.int .i32 (.ofNat 3)))), (2, 1, (.const (.int .i32 (.ofNat 4))))] 3, some 28, none⟩, []⟩,
    ⟨⟨.bslice 1 [.nils, .nils, .nils] [(0, 1, (.slot 26)), (1, 1, (.slot 27)), (2, 1, (.slot 28))] 3, some 29, none⟩, []⟩,
    ⟨⟨.call (.const (.func 4 [] [])) [(.slot 29)], some 30, none⟩, []⟩,
    ⟨⟨.mv (.slot 30), some 1, none⟩, []⟩])
  (.seq (.region false [⟨⟨.mv (.slot 1), some 32, none⟩, []⟩,
    ⟨⟨.call (.const (.func 5 [] [])) [(.slot 32), (.const (.int .i64 (.ofNat 1)))], some 33, none⟩, []⟩,
    ⟨⟨.mv (.slot 33), some 31, none⟩, []⟩,
    ⟨⟨.extract (.slot 31) 0, some 34, none⟩, []⟩,
    ⟨⟨.extract (.slot 31) 1, some 35, none⟩, []⟩,
    ⟨⟨.mv (.slot 34), some 2, none⟩, []⟩,
    ⟨⟨.mv (.slot 35), some 3, none⟩, []⟩])
  (.seq (.region false [⟨⟨.mv (.slot 1), some 37, none⟩, []⟩,
    ⟨⟨.call (.const (.func 6 [] [])) [(.slot 37), (.const (.int .i64 (.ofNat 6)))], some 38, none⟩, []⟩,
    ⟨⟨.mv (.slot 38), some 36, none⟩, []⟩,
    ⟨⟨.extract (.slot 36) 0, some 39, none⟩, []⟩,
    ⟨⟨.extract (.slot 36) 1, some 40, none⟩, []⟩,
    ⟨⟨.alloc [(.int .i64 (.ofNat 0)), .nils, (.bool false)], some 4, none⟩, []⟩,
    ⟨⟨.store 3 (.slot 4) (.slot 39), none, none⟩, []⟩,
    ⟨⟨.mv (.slot 40), some 5, none⟩, []⟩])
  (.seq (.region false [⟨⟨.mv (.slot 2), some 41, none⟩, []⟩,
    ⟨⟨.bin .eql 3 .num (.slot 41) (.const (.int .i64 (.ofNat 1))), some 42, none⟩, []⟩,
    ⟨⟨.mv (.slot 42), some 43, none⟩, []⟩,
    ⟨⟨.mv (.slot 3), some 44, some (43, true)⟩, []⟩,
    ⟨⟨.bin .eql 27 .num (.slot 44) (.const (.int .i64 (.ofNat 0))), some 45, some (43, true)⟩, []⟩,
    ⟨⟨.pick (.slot 43) (.slot 45) (.const (.bool false)), some 46, none⟩, []⟩,
    ⟨⟨.mv (.slot 46), some 47, none⟩, []⟩,
    ⟨⟨.mv (.slot 5), some 48, some (47, true)⟩, []⟩,
    ⟨⟨.pick (.slot 47) (.slot 48) (.const (.bool false)), some 49, none⟩, []⟩,
    ⟨⟨.mv (.slot 49), some 50, none⟩, []⟩,
    ⟨⟨.faddr 1 (.slot 4), some 51, some (50, true)⟩, []⟩,
    ⟨⟨.load false 1 (.slot 51), some 52, some (50, true)⟩, []⟩,
    ⟨⟨.bslice 1 [(.int .i32 (.ofNat 0))] [(0, 1, (.const (.int .i32 (.ofNat 2))))] 1, some 53, some (50, true)⟩, []⟩,
    ⟨⟨.call (.const (.func 7 [] [])) [(.slot 52), (.slot 53)], some 54, some (50, true)⟩, []⟩,
    ⟨⟨.pick (.slot 50) (.slot 54) (.const (.bool false)), some 55, none⟩, []⟩,
    ⟨⟨.mv (.slot 55), some 56, none⟩, []⟩,
    ⟨⟨.mv (.slot 1), some 57, some (56, true)⟩, []⟩,
    ⟨⟨.call (.const (.func 8 [] [])) [(.slot 57)], some 58, some (56, true)⟩, []⟩,
    ⟨⟨.bin .eql 2 .num (.slot 58) (.const (.int .i64 (.ofNat 6))), some 59, some (56, true)⟩, []⟩,
    ⟨⟨.pick (.slot 56) (.slot 59) (.const (.bool false)), some 60, none⟩, []⟩,
    ⟨⟨.mv (.slot 60), some 61, none⟩, []⟩,
    ⟨⟨.mv (.slot 1), some 62, some (61, true)⟩, []⟩,
    ⟨⟨.call (.const (.func 9 [] [])) [(.slot 62)], some 63, some (61, true)⟩, []⟩,
    ⟨⟨.len .slice (.slot 63), some 64, some (61, true)⟩, []⟩,
    ⟨⟨.bin .eql 3 .num (.slot 64) (.const (.int .i64 (.ofNat 4))), some 65, some (61, true)⟩, []⟩,
    ⟨⟨.pick (.slot 61) (.slot 65) (.const (.bool false)), some 66, none⟩, []⟩,
    ⟨⟨.mv (.slot 66), some 6, none⟩, []⟩])
  (.seq (.region false [⟨⟨.bslice 1 [(.int .i32 (.ofNat 0)), (.int .i32 (.ofNat 0))] [(0, 1, (.const (.int .i32 (.negSucc 0)))), (1, 1, (.const (.int .i32 (.ofNat 2))))] 2, some 67, none⟩, []⟩,
    ⟨⟨.bslice 1 [(.int .i32 (.ofNat 0)), (.int .i32 (.ofNat 0)), (.int .i32 (.ofNat 0))] [(0, 1, (.const (.int .i32 (.negSucc 0)))), (1, 1, (.const (.int .i32 (.negSucc 1)))), (2, 1, (.const (.int .i32 (.ofNat 3))))] 3, some 68, none⟩, []⟩,
    ⟨⟨.bslice 1 [.nils, .nils] [(0, 1, (.slot 67)), (1, 1, (.slot 68))] 2, some 69, none⟩, []⟩,
    ⟨⟨.call (.const (.func 4 [] [])) [(.slot 69)], some 70, none⟩, []⟩,
    ⟨⟨.mv (.slot 70), some 7, none⟩, []⟩])
  (.seq (.region false [⟨⟨.mv (.slot 7), some 72, none⟩, []⟩,
    ⟨⟨.call (.const (.func 5 [] [])) [(.slot 72), (.const (.int .i64 (.ofNat 9)))], some 73, none⟩, []⟩,
    ⟨⟨.mv (.slot 73), some 71, none⟩, []⟩,
    ⟨⟨.extract (.slot 71) 0, some 74, none⟩, []⟩,
    ⟨⟨.extract (.slot 71) 1, some 75, none⟩, []⟩,
    ⟨⟨.mv (.slot 74), some 8, none⟩, []⟩,
    ⟨⟨.mv (.slot 75), some 9, none⟩, []⟩])
  (.seq (.region false [⟨⟨.mv (.slot 7), some 77, none⟩, []⟩,
    ⟨⟨.call (.const (.func 6 [] [])) [(.slot 77), (.const (.int .i64 (.ofNat 3)))], some 78, none⟩, []⟩,
    ⟨⟨.mv (.slot 78), some 76, none⟩, []⟩,
    ⟨⟨.extract (.slot 76) 0, some 79, none⟩, []⟩,
    ⟨⟨.extract (.slot 76) 1, some 80, none⟩, []⟩,
    ⟨⟨.alloc [(.int .i64 (.ofNat 0)), .nils, (.bool false)], some 10, none⟩, []⟩,
    ⟨⟨.store 3 (.slot 10) (.slot 79), none, none⟩, []⟩,
    ⟨⟨.mv (.slot 80), some 11, none⟩, []⟩])
  (.seq (.region false [⟨⟨.mv (.slot 8), some 81, none⟩, []⟩,
    ⟨⟨.bin .geq 3 .num (.slot 81) (.const (.int .i64 (.ofNat 1))), some 82, none⟩, []⟩,
    ⟨⟨.mv (.slot 82), some 83, none⟩, []⟩,
    ⟨⟨.mv (.slot 9), some 84, some (83, true)⟩, []⟩,
    ⟨⟨.bin .eql 27 .num (.slot 84) (.const (.int .i64 (.ofNat 0))), some 85, some (83, true)⟩, []⟩,
    ⟨⟨.pick (.slot 83) (.slot 85) (.const (.bool false)), some 86, none⟩, []⟩,
    ⟨⟨.mv (.slot 86), some 87, none⟩, []⟩,
    ⟨⟨.mv (.slot 11), some 88, some (87, true)⟩, []⟩,
    ⟨⟨.pick (.slot 87) (.slot 88) (.const (.bool false)), some 89, none⟩, []⟩,
    ⟨⟨.mv (.slot 89), some 90, none⟩, []⟩,
    ⟨⟨.faddr 1 (.slot 10), some 91, some (90, true)⟩, []⟩,
    ⟨⟨.load false 1 (.slot 91), some 92, some (90, true)⟩, []⟩,
    ⟨⟨.bslice 1 [(.int .i32 (.ofNat 0)), (.int .i32 (.ofNat 0))] [(0, 1, (.const (.int .i32 (.negSucc 0)))), (1, 1, (.const (.int .i32 (.ofNat 3))))] 2, some 93, some (90, true)⟩, []⟩,
    ⟨⟨.call (.const (.func 7 [] [])) [(.slot 92), (.slot 93)], some 94, some (90, true)⟩, []⟩,
    ⟨⟨.pick (.slot 90) (.slot 94) (.const (.bool false)), some 95, none⟩, []⟩,
    ⟨⟨.mv (.slot 95), some 96, none⟩, []⟩,
    ⟨⟨.faddr 2 (.slot 10), some 97, some (96, true)⟩, []⟩,
    ⟨⟨.load false 1 (.slot 97), some 98, some (96, true)⟩, []⟩,
    ⟨⟨.pick (.slot 96) (.slot 98) (.const (.bool false)), some 99, none⟩, []⟩,
    ⟨⟨.mv (.slot 99), some 12, none⟩, []⟩])
  (.seq (.region false [⟨⟨.bslice 1 [(.int .i32 (.ofNat 0))] [(0, 1, (.const (.int .i32 (.ofNat 1))))] 1, some 100, none⟩, []⟩,
    ⟨⟨.bslice 1 [(.int .i32 (.ofNat 0))] [(0, 1, (.const (.int .i32 (.negSucc 0))))] 1, some 101, none⟩, []⟩,
    ⟨⟨.bslice 1 [.nils, .nils] [(0, 1, (.slot 100)), (1, 1, (.slot 101))] 2, some 102, none⟩, []⟩,
    ⟨⟨.call (.const (.func 4 [] [])) [(.slot 102)], some 103, none⟩, []⟩,
    ⟨⟨.mv (.slot 103), some 13, none⟩, []⟩])
  (.seq (.region false [⟨⟨.mv (.slot 13), some 105, none⟩, []⟩,
    ⟨⟨.call (.const (.func 5 [] [])) [(.slot 105), (.const (.int .i64 (.ofNat 9)))], some 106, none⟩, []⟩,
    ⟨⟨.mv (.slot 106), some 104, none⟩, []⟩,
    ⟨⟨.extract (.slot 104) 0, some 107, none⟩, []⟩,
    ⟨⟨.extract (.slot 104) 1, some 108, none⟩, []⟩,
    ⟨⟨.mv (.slot 107), some 14, none⟩, []⟩,
    ⟨⟨.mv (.slot 108), some 15, none⟩, []⟩])
  (.seq (.region false [⟨⟨.mv (.slot 13), some 110, none⟩, []⟩,
    ⟨⟨.call (.const (.func 5 [] [])) [(.slot 110), (.const (.int .i64 (.ofNat 9)))], some 111, none⟩, []⟩,
    ⟨⟨.mv (.slot 111), some 109, none⟩, []⟩,
    ⟨⟨.extract (.slot 109) 0, some 112, none⟩, []⟩,
    ⟨⟨.extract (.slot 109) 1, some 113, none⟩, []⟩,
    ⟨⟨.mv (.slot 112), some 16, none⟩, []⟩,
    ⟨⟨.mv (.slot 113), some 17, none⟩, []⟩])
  (.seq (.region false [⟨⟨.mv (.slot 13), some 115, none⟩, []⟩,
    ⟨⟨.call (.const (.func 10 [] [])) [(.slot 115)], some 116, none⟩, []⟩,
    ⟨⟨.mv (.slot 116), some 114, none⟩, []⟩,
    ⟨⟨.extract (.slot 114) 0, some 117, none⟩, []⟩,
    ⟨⟨.extract (.slot 114) 1, some 118, none⟩, []⟩,
    ⟨⟨.mv (.slot 117), some 18, none⟩, []⟩,
    ⟨⟨.mv (.slot 118), some 19, none⟩, []⟩])
  (.seq (.region false [⟨⟨.call (.const (.func 5 [] [])) [(.const .nilp), (.const (.int .i64 (.ofNat 1)))], some 120, none⟩, []⟩,
    ⟨⟨.mv (.slot 120), some 119, none⟩, []⟩,
    ⟨⟨.extract (.slot 119) 0, some 121, none⟩, []⟩,
    ⟨⟨.extract (.slot 119) 1, some 122, none⟩, []⟩,
    ⟨⟨.mv (.slot 121), some 20, none⟩, []⟩,
    ⟨⟨.mv (.slot 122), some 21, none⟩, []⟩])
  (.seq (.region false [⟨⟨.mv (.slot 13), some 124, none⟩, []⟩,
    ⟨⟨.call (.const (.func 5 [] [])) [(.slot 124), (.const (.int .i64 (.negSucc 0)))], some 125, none⟩, []⟩,
    ⟨⟨.mv (.slot 125), some 123, none⟩, []⟩,
    ⟨⟨.extract (.slot 123) 0, some 126, none⟩, []⟩,
    ⟨⟨.extract (.slot 123) 1, some 127, none⟩, []⟩,
    ⟨⟨.mv (.slot 126), some 22, none⟩, []⟩,
    ⟨⟨.mv (.slot 127), some 23, none⟩, []⟩])
  (.seq (.region false [⟨⟨.bslice 1 [(.int .i32 (.ofNat 0)), (.int .i32 (.ofNat 0))] [(0, 1, (.const (.int .i32 (.ofNat 1)))), (1, 1, (.const (.int .i32 (.ofNat 2))))] 2, some 129, none⟩, []⟩,
    ⟨⟨.bslice 1 [(.int .i32 (.ofNat 0)), (.int .i32 (.ofNat 0))] [(0, 1, (.const (.int .i32 (.negSucc 0)))), (1, 1, (.const (.int .i32 (.ofNat 2))))] 2, some 130, none⟩, []⟩,
    ⟨⟨.bslice 1 [.nils, .nils] [(0, 1, (.slot 129)), (1, 1, (.slot 130))] 2, some 131, none⟩, []⟩,
    ⟨⟨.call (.const (.func 4 [] [])) [(.slot 131)], some 132, none⟩, []⟩,
    ⟨⟨.call (.const (.func 5 [] [])) [(.slot 132), (.const (.int .i64 (.ofNat 0)))], some 133, none⟩, []⟩,
    ⟨⟨.mv (.slot 133), some 128, none⟩, []⟩,
    ⟨⟨.extract (.slot 128) 0, some 134, none⟩, []⟩,
    ⟨⟨.extract (.slot 128) 1, some 135, none⟩, []⟩,
    ⟨⟨.mv (.slot 134), some 24, none⟩, []⟩,
    ⟨⟨.mv (.slot 135), some 25, none⟩, []⟩])
  (.seq (.region false [⟨⟨.mv (.slot 6), some 136, none⟩, []⟩,
    ⟨⟨.mv (.slot 136), some 137, none⟩, []⟩,
    ⟨⟨.mv (.slot 12), some 138, some (137, true)⟩, []⟩,
    ⟨⟨.pick (.slot 137) (.slot 138) (.const (.bool false)), some 139, none⟩, []⟩,
    ⟨⟨.mv (.slot 139), some 140, none⟩, []⟩,
    ⟨⟨.mv (.slot 14), some 141, some (140, true)⟩, []⟩,
    ⟨⟨.bin .eql 3 .num (.slot 141) (.const (.int .i64 (.ofNat 1))), some 142, some (140, true)⟩, []⟩,
    ⟨⟨.pick (.slot 140) (.slot 142) (.const (.bool false)), some 143, none⟩, []⟩,
    ⟨⟨.mv (.slot 143), some 144, none⟩, []⟩,
    ⟨⟨.mv (.slot 15), some 145, some (144, true)⟩, []⟩,
    ⟨⟨.bin .eql 27 .num (.slot 145) (.const (.int .i64 (.ofNat 0))), some 146, some (144, true)⟩, []⟩,
    ⟨⟨.pick (.slot 144) (.slot 146) (.const (.bool false)), some 147, none⟩, []⟩,
    ⟨⟨.mv (.slot 147), some 148, none⟩, []⟩,
    ⟨⟨.mv (.slot 16), some 149, some (148, true)⟩, []⟩,
    ⟨⟨.bin .eql 3 .num (.slot 149) (.const (.int .i64 (.ofNat 0))), some 150, some (148, true)⟩, []⟩,
    ⟨⟨.pick (.slot 148) (.slot 150) (.const (.bool false)), some 151, none⟩, []⟩,
    ⟨⟨.mv (.slot 151), some 152, none⟩, []⟩,
    ⟨⟨.mv (.slot 17), some 153, some (152, true)⟩, []⟩,
    ⟨⟨.bin .eql 27 .num (.slot 153) (.const (.int .i64 (.ofNat 0))), some 154, some (152, true)⟩, []⟩,
    ⟨⟨.pick (.slot 152) (.slot 154) (.const (.bool false)), some 155, none⟩, []⟩,
    ⟨⟨.mv (.slot 155), some 156, none⟩, []⟩,
    ⟨⟨.mv (.slot 19), some 157, some (156, true)⟩, []⟩,
    ⟨⟨.pick (.slot 156) (.slot 157) (.const (.bool false)), some 158, none⟩, []⟩,
    ⟨⟨.mv (.slot 158), some 159, none⟩, []⟩,
    ⟨⟨.mv (.slot 21), some 160, some (159, true)⟩, []⟩,
    ⟨⟨.bin .eql 27 .num (.slot 160) (.const (.int .i64 (.ofNat 1))), some 161, some (159, true)⟩, []⟩,
    ⟨⟨.pick (.slot 159) (.slot 161) (.const (.bool false)), some 162, none⟩, []⟩,
    ⟨⟨.mv (.slot 162), some 163, none⟩, []⟩,
    ⟨⟨.mv (.slot 23), some 164, some (163, true)⟩, []⟩,
    ⟨⟨.bin .eql 27 .num (.slot 164) (.const (.int .i64 (.ofNat 2))), some 165, some (163, true)⟩, []⟩,
    ⟨⟨.pick (.slot 163) (.slot 165) (.const (.bool false)), some 166, none⟩, []⟩,
    ⟨⟨.mv (.slot 166), some 167, none⟩, []⟩,
    ⟨⟨.mv (.slot 24), some 168, some (167, true)⟩, []⟩,
    ⟨⟨.bin .eql 3 .num (.slot 168) (.const (.int .i64 (.ofNat 0))), some 169, some (167, true)⟩, []⟩,
    ⟨⟨.pick (.slot 167) (.slot 169) (.const (.bool false)), some 170, none⟩, []⟩,
    ⟨⟨.mv (.slot 170), some 171, none⟩, []⟩,
    ⟨⟨.mv (.slot 25), some 172, some (171, true)⟩, []⟩,
    ⟨⟨.bin .eql 27 .num (.slot 172) (.const (.int .i64 (.ofNat 0))), some 173, some (171, true)⟩, []⟩,
    ⟨⟨.pick (.slot 171) (.slot 173) (.const (.bool false)), some 174, none⟩, []⟩,
    ⟨⟨.mv (.slot 174), some 175, none⟩, []⟩,
    ⟨⟨.call (.const (.func 11 [] [])) [], some 176, some (175, true)⟩, []⟩,
    ⟨⟨.pick (.slot 175) (.slot 176) (.const (.bool false)), some 177, none⟩, []⟩,
    ⟨⟨.mv (.slot 177), some 0, none⟩, []⟩])
  .ret))))))))))))))))),
  [.tmp 0]⟩
theorem xf3_ok : compFunc Tryz.prog Tryz.f3 = some xf3 := by kernel_rfl
/-- threshing/threshinglaw21.began -/
def xf4 : XFunc := ⟨(.seq (.region false [⟨⟨.mv (.const .nilp), some 2, none⟩, []⟩])
  (.seq (.region false [⟨⟨.mv (.slot 0), some 6, none⟩, []⟩,
    ⟨⟨.build [(.int .i64 (.ofNat 0)), .nils] [(0, 1, (.const (.int .i64 (.ofNat 4)))), (1, 1, (.slot 6))], some 7, none⟩, []⟩,
    ⟨⟨.call (.const (.func 12 [] [])) [(.slot 7)], some 8, none⟩, []⟩,
    ⟨⟨.mv (.slot 8), some 5, none⟩, []⟩,
    ⟨⟨.extract (.slot 5) 0, some 9, none⟩, []⟩,
    ⟨⟨.extract (.slot 5) 1, some 10, none⟩, []⟩,
    ⟨⟨.mv (.slot 9), some 3, none⟩, []⟩,
    ⟨⟨.mv (.slot 10), some 4, none⟩, []⟩])
  (.seq (.region false [⟨⟨.mv (.slot 3), some 11, none⟩, []⟩,
    ⟨⟨.mv (.slot 11), some 2, none⟩, []⟩])
  .ret))),
  [.tmp 2]⟩
theorem xf4_ok : compFunc Tryz.prog Tryz.f4 = some xf4 := by kernel_rfl
/-- threshing/probe.Probe -/
def xf5 : XFunc := ⟨(.seq (.region false [⟨⟨.mv (.const (.int .i64 (.ofNat 0))), some 4, none⟩, []⟩,
    ⟨⟨.mv (.const (.int .i64 (.ofNat 0))), some 5, none⟩, []⟩])
  (.seq (.block 0 (.seq (.region false [⟨⟨.mv (.slot 0), some 13, none⟩, []⟩,
    ⟨⟨.bin .eql 22 .ptr (.slot 13) (.const .nilp), some 14, none⟩, []⟩,
    ⟨⟨.mv (.slot 14), some 12, none⟩, []⟩])
  (.cond (.slot 12)
   (.seq (.region false [⟨⟨.mv (.const (.int .i64 (.ofNat 0))), some 4, none⟩, []⟩,
     ⟨⟨.mv (.const (.int .i64 (.ofNat 1))), some 5, none⟩, []⟩])
   .ret)
   (.seq (.region false [⟨⟨.mv (.slot 1), some 16, none⟩, []⟩,
     ⟨⟨.bin .lss 3 .num (.slot 16) (.const (.int .i64 (.ofNat 0))), some 17, none⟩, []⟩,
     ⟨⟨.mv (.slot 17), some 15, none⟩, []⟩])
   (.cond (.slot 15)
    (.seq (.region false [⟨⟨.mv (.const (.int .i64 (.ofNat 0))), some 4, none⟩, []⟩,
      ⟨⟨.mv (.const (.int .i64 (.ofNat 2))), some 5, none⟩, []⟩])
    .ret)
    .skip)))))
  (.seq (.region false [⟨⟨.mv (.slot 0), some 18, none⟩, []⟩,
    ⟨⟨.mv (.slot 1), some 19, none⟩, []⟩,
    ⟨⟨.build [.nilp, (.int .i64 (.ofNat 0)), (.int .i64 (.ofNat 0)), (.int .i64 (.ofNat 0)), .nilm] [(0, 1, (.slot 18)), (2, 1, (.slot 19))], some 20, none⟩, []⟩,
    ⟨⟨.box (.slot 20), some 21, none⟩, []⟩,
    ⟨⟨.mv (.slot 21), some 6, none⟩, []⟩])
  (.seq (.seq (.region false [⟨⟨.mv (.const (.int .i32 (.ofNat 1))), some 7, none⟩, []⟩])
  (.block 1 (.loop (.seq (.seq (.region false [⟨⟨.mv (.slot 7), some 22, none⟩, []⟩,
     ⟨⟨.conv .i64 (.slot 22), some 23, none⟩, []⟩,
     ⟨⟨.mv (.slot 0), some 24, none⟩, []⟩,
     ⟨⟨.call (.const (.func 13 [] [])) [(.slot 24)], some 25, none⟩, []⟩,
     ⟨⟨.bin .leq 3 .num (.slot 23) (.slot 25), some 26, none⟩, []⟩,
     ⟨⟨.mv (.slot 26), some 27, none⟩, []⟩,
     ⟨⟨.mv (.slot 6), some 28, some (27, true)⟩, []⟩,
     ⟨⟨.call (.const (.func 14 [] [])) [(.slot 28)], some 29, some (27, true)⟩, []⟩,
     ⟨⟨.un .not (.slot 29), some 30, some (27, true)⟩, []⟩,
     ⟨⟨.pick (.slot 27) (.slot 30) (.const (.bool false)), some 31, none⟩, []⟩])
   (.cond (.slot 31)
    .skip
    (.exit 1)))
   (.seq (.block 2 (.seq (.region false [⟨⟨.mv (.slot 0), some 35, none⟩, []⟩,
     ⟨⟨.call (.const (.func 15 [] [])) [(.slot 35), (.const .nils), (.const (.int .i64 (.ofNat 0)))], some 36, none⟩, []⟩,
     ⟨⟨.mv (.slot 36), some 34, none⟩, []⟩,
     ⟨⟨.extract (.slot 34) 0, some 37, none⟩, []⟩,
     ⟨⟨.extract (.slot 34) 1, some 38, none⟩, []⟩,
     ⟨⟨.alloc [.nils, .nils, (.int .i64 (.ofNat 0))], some 8, none⟩, []⟩,
     ⟨⟨.store 3 (.slot 8) (.slot 37), none, none⟩, []⟩,
     ⟨⟨.mv (.slot 38), some 9, none⟩, []⟩])
   (.seq (.seq (.region false [⟨⟨.mv (.slot 9), some 39, none⟩, []⟩,
     ⟨⟨.bin .neq 27 .num (.slot 39) (.const (.int .i64 (.ofNat 0))), some 40, none⟩, []⟩])
   (.cond (.slot 40)
    (.seq (.region false [⟨⟨.mv (.slot 6), some 41, none⟩, []⟩,
      ⟨⟨.nilCheck (.slot 41), some 42, none⟩, []⟩,
      ⟨⟨.faddr 1 (.slot 42), some 43, none⟩, []⟩,
      ⟨⟨.load false 1 (.slot 43), some 44, none⟩, []⟩,
      ⟨⟨.mv (.slot 9), some 45, none⟩, []⟩,
      ⟨⟨.mv (.slot 44), some 4, none⟩, []⟩,
      ⟨⟨.mv (.slot 45), some 5, none⟩, []⟩])
    .ret)
    .skip))
   (.seq (.seq (.region false [⟨⟨.faddr 2 (.slot 8), some 46, none⟩, []⟩,
     ⟨⟨.load false 1 (.slot 46), some 47, none⟩, []⟩,
     ⟨⟨.bin .neq 2 .num (.slot 47) (.const (.int .i64 (.ofNat 0))), some 48, none⟩, []⟩])
   (.cond (.slot 48)
    (.seq (.seq (.region false [⟨⟨.mv (.slot 0), some 50, none⟩, []⟩,
      ⟨⟨.call (.const (.func 10 [] [])) [(.slot 50)], some 51, none⟩, []⟩,
      ⟨⟨.mv (.slot 51), some 49, none⟩, []⟩,
      ⟨⟨.extract (.slot 49) 0, some 52, none⟩, []⟩,
      ⟨⟨.extract (.slot 49) 1, some 53, none⟩, []⟩,
      ⟨⟨.mv (.slot 52), some 10, none⟩, []⟩,
      ⟨⟨.mv (.slot 53), some 11, none⟩, []⟩])
    (.seq (.region false [⟨⟨.mv (.slot 11), some 54, none⟩, []⟩,
      ⟨⟨.un .not (.slot 54), some 55, none⟩, []⟩])
    (.cond (.slot 55)
     (.region false [⟨⟨.mv (.slot 6), some 56, none⟩, []⟩,
       ⟨⟨.load true 3 (.slot 8), some 57, none⟩, []⟩,
       ⟨⟨.call (.const (.func 17 [] [])) [(.slot 57)], some 58, none⟩, []⟩,
       ⟨⟨.call (.const (.func 16 [] [])) [(.slot 56), (.const .nils), (.slot 58), (.const (.bool false))], some 59, none⟩, []⟩])
     .skip)))
    (.exit 1))
    .skip))
   (.seq (.region false [⟨⟨.mv (.slot 6), some 60, none⟩, []⟩,
     ⟨⟨.faddr 0 (.slot 8), some 61, none⟩, []⟩,
     ⟨⟨.load false 1 (.slot 61), some 62, none⟩, []⟩,
     ⟨⟨.call (.const (.func 18 [] [])) [(.slot 62)], some 63, none⟩, []⟩,
     ⟨⟨.nilCheck (.slot 60), some 64, none⟩, []⟩,
     ⟨⟨.faddr 4 (.slot 64), some 65, none⟩, []⟩,
     ⟨⟨.store 1 (.slot 65) (.slot 63), none, none⟩, []⟩])
   (.seq (.region false [⟨⟨.mv (.slot 6), some 66, none⟩, []⟩,
     ⟨⟨.nilCheck (.slot 66), some 67, none⟩, []⟩,
     ⟨⟨.faddr 4 (.slot 67), some 68, none⟩, []⟩,
     ⟨⟨.load false 1 (.slot 68), some 69, none⟩, []⟩,
     ⟨⟨.mv (.slot 7), some 70, none⟩, []⟩,
     ⟨⟨.lookup .i32 (.bool false) (.slot 69) (.slot 70) false, some 71, none⟩, []⟩,
     ⟨⟨.un .not (.slot 71), some 72, none⟩, []⟩,
     ⟨⟨.mv (.slot 72), some 73, none⟩, []⟩,
     ⟨⟨.mv (.slot 6), some 74, some (73, true)⟩, []⟩,
     ⟨⟨.nilCheck (.slot 74), some 75, some (73, true)⟩, []⟩,
     ⟨⟨.faddr 4 (.slot 75), some 76, some (73, true)⟩, []⟩,
     ⟨⟨.load false 1 (.slot 76), some 77, some (73, true)⟩, []⟩,
     ⟨⟨.mv (.slot 7), some 78, some (73, true)⟩, []⟩,
     ⟨⟨.un .neg (.slot 78), some 79, some (73, true)⟩, []⟩,
     ⟨⟨.lookup .i32 (.bool false) (.slot 77) (.slot 79) false, some 80, some (73, true)⟩, []⟩,
     ⟨⟨.un .not (.slot 80), some 81, some (73, true)⟩, []⟩,
     ⟨⟨.pick (.slot 73) (.slot 81) (.const (.bool false)), some 82, none⟩, []⟩])
   (.cond (.slot 82)
    (.region false [⟨⟨.mv (.slot 6), some 83, none⟩, []⟩,
      ⟨⟨.mv (.slot 7), some 84, none⟩, []⟩,
      ⟨⟨.call (.const (.func 19 [] [])) [(.slot 83), (.slot 84)], some 85, none⟩, []⟩])
    .skip)))))))
   (.region false [⟨⟨.mv (.slot 7), some 32, none⟩, []⟩,
     ⟨⟨.bin .add 24 .num (.slot 32) (.const (.int .i32 (.ofNat 1))), some 33, none⟩, []⟩,
     ⟨⟨.mv (.slot 33), some 7, none⟩, []⟩]))))))
  (.seq (.region true [⟨⟨.mv (.slot 6), some 86, none⟩, []⟩,
    ⟨⟨.nilCheck (.slot 86), some 87, none⟩, []⟩,
    ⟨⟨.faddr 1 (.slot 87), some 88, none⟩, []⟩,
    ⟨⟨.load false 1 (.slot 88), some 89, none⟩, []⟩,
    ⟨⟨.mv (.slot 6), some 90, none⟩, []⟩,
    ⟨⟨.nilCheck (.slot 90), some 91, none⟩, []⟩,
    ⟨⟨.faddr 3 (.slot 91), some 92, none⟩, []⟩,
    ⟨⟨.load false 1 (.slot 92), some 93, none⟩, []⟩,
    ⟨⟨.mv (.slot 89), some 4, none⟩, []⟩,
    ⟨⟨.mv (.slot 93), some 5, none⟩, []⟩])
  .ret))))),
  [.tmp 4, .tmp 5]⟩
theorem xf5_ok : compFunc Tryz.prog Tryz.f5 = some xf5 := by kernel_rfl
/-- (*threshing/base.Base).Get -/
def xf6 : XFunc := ⟨(.seq (.region false [⟨⟨.alloc [(.int .i64 (.ofNat 0)), .nils, (.bool false)], some 4, none⟩, []⟩,
    ⟨⟨.mv (.const (.bool false)), some 5, none⟩, []⟩])
  (.seq (.seq (.region false [⟨⟨.mv (.slot 0), some 8, none⟩, []⟩,
    ⟨⟨.bin .eql 22 .ptr (.slot 8) (.const .nilp), some 9, none⟩, []⟩])
  (.cond (.slot 9)
   (.seq (.region false [⟨⟨.build [(.int .i64 (.ofNat 0)), .nils, (.bool false)] [], some 10, none⟩, []⟩,
     ⟨⟨.store 3 (.slot 4) (.slot 10), none, none⟩, []⟩,
     ⟨⟨.mv (.const (.bool false)), some 5, none⟩, []⟩])
   .ret)
   .skip))
  (.seq (.region false [⟨⟨.mv (.slot 0), some 12, none⟩, []⟩,
    ⟨⟨.nilCheck (.slot 12), some 13, none⟩, []⟩,
    ⟨⟨.faddr 1 (.slot 13), some 14, none⟩, []⟩,
    ⟨⟨.load false 1 (.slot 14), some 15, none⟩, []⟩,
    ⟨⟨.mv (.slot 1), some 16, none⟩, []⟩,
    ⟨⟨.lookup .i64 (.agg [(.int .i64 (.ofNat 0)), .nils, (.bool false)]) (.slot 15) (.slot 16) true, some 17, none⟩, []⟩,
    ⟨⟨.mv (.slot 17), some 11, none⟩, []⟩,
    ⟨⟨.extract (.slot 11) 0, some 18, none⟩, []⟩,
    ⟨⟨.extract (.slot 11) 1, some 19, none⟩, []⟩,
    ⟨⟨.alloc [(.int .i64 (.ofNat 0)), .nils, (.bool false)], some 6, none⟩, []⟩,
    ⟨⟨.store 3 (.slot 6) (.slot 18), none, none⟩, []⟩,
    ⟨⟨.mv (.slot 19), some 7, none⟩, []⟩])
  (.seq (.region false [⟨⟨.load true 3 (.slot 6), some 20, none⟩, []⟩,
    ⟨⟨.call (.const (.func 20 [] [])) [(.slot 20)], some 21, none⟩, []⟩,
    ⟨⟨.mv (.slot 7), some 22, none⟩, []⟩,
    ⟨⟨.store 3 (.slot 4) (.slot 21), none, none⟩, []⟩,
    ⟨⟨.mv (.slot 22), some 5, none⟩, []⟩])
  .ret)))),
  [.cell 4 true 3, .tmp 5]⟩
theorem xf6_ok : compFunc Tryz.prog Tryz.f6 = some xf6 := by kernel_rfl
/-- threshing/threshingkit.SameClause -/
def xf7 : XFunc := ⟨(.seq (.region false [⟨⟨.mv (.const (.bool false)), some 4, none⟩, []⟩])
  (.seq (.seq (.region false [⟨⟨.mv (.slot 0), some 6, none⟩, []⟩,
    ⟨⟨.len .slice (.slot 6), some 7, none⟩, []⟩,
    ⟨⟨.mv (.slot 1), some 8, none⟩, []⟩,
    ⟨⟨.len .slice (.slot 8), some 9, none⟩, []⟩,
    ⟨⟨.bin .neq 3 .num (.slot 7) (.slot 9), some 10, none⟩, []⟩])
  (.cond (.slot 10)
   (.seq (.region false [⟨⟨.mv (.const (.bool false)), some 4, none⟩, []⟩])
   .ret)
   .skip))
  (.seq (.seq (.region false [⟨⟨.mv (.const (.int .i64 (.ofNat 0))), some 5, none⟩, []⟩])
  (.block 0 (.loop (.seq (.seq (.region false [⟨⟨.mv (.slot 5), some 11, none⟩, []⟩,
     ⟨⟨.mv (.slot 0), some 12, none⟩, []⟩,
     ⟨⟨.len .slice (.slot 12), some 13, none⟩, []⟩,
     ⟨⟨.bin .lss 3 .num (.slot 11) (.slot 13), some 14, none⟩, []⟩])
   (.cond (.slot 14)
    .skip
    (.exit 0)))
   (.seq (.block 1 (.seq (.region true [⟨⟨.mv (.slot 0), some 17, none⟩, []⟩,
     ⟨⟨.mv (.slot 5), some 18, none⟩, []⟩,
     ⟨⟨.iaddr 1 (.slot 17) (.slot 18), some 19, none⟩, []⟩,
     ⟨⟨.load false 1 (.slot 19), some 20, none⟩, []⟩,
     ⟨⟨.mv (.slot 1), some 21, none⟩, []⟩,
     ⟨⟨.mv (.slot 5), some 22, none⟩, []⟩,
     ⟨⟨.iaddr 1 (.slot 21) (.slot 22), some 23, none⟩, []⟩,
     ⟨⟨.load false 1 (.slot 23), some 24, none⟩, []⟩,
     ⟨⟨.bin .neq 24 .num (.slot 20) (.slot 24), some 25, none⟩, []⟩])
   (.cond (.slot 25)
    (.seq (.region false [⟨⟨.mv (.const (.bool false)), some 4, none⟩, []⟩])
    .ret)
    .skip)))
   (.region false [⟨⟨.mv (.slot 5), some 15, none⟩, []⟩,
     ⟨⟨.bin .add 3 .num (.slot 15) (.const (.int .i64 (.ofNat 1))), some 16, none⟩, []⟩,
     ⟨⟨.mv (.slot 16), some 5, none⟩, []⟩]))))))
  (.seq (.region false [⟨⟨.mv (.const (.bool true)), some 4, none⟩, []⟩])
  .ret)))),
  [.tmp 4]⟩
theorem xf7_ok : compFunc Tryz.prog Tryz.f7 = some xf7 := by kernel_rfl
/-- (*threshing/base.Base).Last -/
def xf8 : XFunc := ⟨(.seq (.region false [⟨⟨.mv (.const (.int .i64 (.ofNat 0))), some 2, none⟩, []⟩])
  (.seq (.seq (.region false [⟨⟨.mv (.slot 0), some 3, none⟩, []⟩,
    ⟨⟨.bin .eql 22 .ptr (.slot 3) (.const .nilp), some 4, none⟩, []⟩])
  (.cond (.slot 4)
   (.seq (.region false [⟨⟨.mv (.const (.int .i64 (.ofNat 0))), some 2, none⟩, []⟩])
   .ret)
   .skip))
  (.seq (.region false [⟨⟨.mv (.slot 0), some 5, none⟩, []⟩,
    ⟨⟨.nilCheck (.slot 5), some 6, none⟩, []⟩,
    ⟨⟨.faddr 4 (.slot 6), some 7, none⟩, []⟩,
    ⟨⟨.load false 1 (.slot 7), some 8, none⟩, []⟩,
    ⟨⟨.mv (.slot 8), some 2, none⟩, []⟩])
  .ret))),
  [.tmp 2]⟩
theorem xf8_ok : compFunc Tryz.prog Tryz.f8 = some xf8 := by kernel_rfl
/-- (*threshing/base.Base).Entries -/
def xf9 : XFunc := ⟨(.seq (.region false [⟨⟨.mv (.const .nils), some 2, none⟩, []⟩])
  (.seq (.seq (.region false [⟨⟨.mv (.slot 0), some 6, none⟩, []⟩,
    ⟨⟨.bin .eql 22 .ptr (.slot 6) (.const .nilp), some 7, none⟩, []⟩])
  (.cond (.slot 7)
   (.seq (.region false [⟨⟨.mv (.const .nils), some 2, none⟩, []⟩])
   .ret)
   .skip))
  (.seq (.region false [⟨⟨.mv (.const .nils), some 3, none⟩, []⟩])
  (.seq (.seq (.region false [⟨⟨.mv (.slot 0), some 8, none⟩, []⟩,
    ⟨⟨.nilCheck (.slot 8), some 9, none⟩, []⟩,
    ⟨⟨.faddr 1 (.slot 9), some 10, none⟩, []⟩,
    ⟨⟨.load false 1 (.slot 10), some 11, none⟩, []⟩,
    ⟨⟨.call (.const (.func 22 [] [])) [(.slot 11)], some 12, none⟩, []⟩,
    ⟨⟨.call (.const (.func 21 [] [])) [(.slot 12)], some 13, none⟩, []⟩,
    ⟨⟨.len .slice (.slot 13), some 14, none⟩, []⟩,
    ⟨⟨.mv (.const (.int .i64 (.ofNat 0))), some 15, none⟩, []⟩])
  (.block 0 (.loop (.seq (.region false [⟨⟨.bin .lss 3 .num (.slot 15) (.slot 14), some 16, none⟩, []⟩])
   (.seq (.cond (.slot 16)
    .skip
    (.exit 0))
   (.seq (.block 1 (.seq (.region false [⟨⟨.iaddr 1 (.slot 13) (.slot 15), some 17, none⟩, []⟩,
     ⟨⟨.load false 1 (.slot 17), some 18, none⟩, []⟩,
     ⟨⟨.mv (.slot 18), some 5, none⟩, []⟩])
   (.region false [⟨⟨.mv (.slot 3), some 19, none⟩, []⟩,
     ⟨⟨.mv (.slot 0), some 20, none⟩, []⟩,
     ⟨⟨.nilCheck (.slot 20), some 21, none⟩, []⟩,
     ⟨⟨.faddr 1 (.slot 21), some 22, none⟩, []⟩,
     ⟨⟨.load false 1 (.slot 22), some 23, none⟩, []⟩,
     ⟨⟨.mv (.slot 5), some 24, none⟩, []⟩,
     ⟨⟨.lookup .i64 (.agg [(.int .i64 (.ofNat 0)), .nils, (.bool false)]) (.slot 23) (.slot 24) false, some 25, none⟩, []⟩,
     ⟨⟨.call (.const (.func 20 [] [])) [(.slot 25)], some 26, none⟩, []⟩,
     ⟨⟨.bslice 3 [(.int .i64 (.ofNat 0)), .nils, (.bool false)] [(0, 3, (.slot 26))] 1, some 27, none⟩, []⟩,
     ⟨⟨.append 3 40 (.slot 19) (.slot 27), some 28, none⟩, []⟩,
     ⟨⟨.mv (.slot 28), some 3, none⟩, []⟩])))
   (.region false [⟨⟨.bin .add 3 .num (.slot 15) (.const (.int .i64 (.ofNat 1))), some 29, none⟩, []⟩,
     ⟨⟨.mv (.slot 29), some 15, none⟩, []⟩])))))))
  (.seq (.region false [⟨⟨.mv (.slot 3), some 30, none⟩, []⟩,
    ⟨⟨.mv (.slot 30), some 2, none⟩, []⟩])
  .ret))))),
  [.tmp 2]⟩
theorem xf9_ok : compFunc Tryz.prog Tryz.f9 = some xf9 := by kernel_rfl
/-- (*threshing/base.Base).Empty -/
def xf10 : XFunc := ⟨(.seq (.region false [⟨⟨.mv (.const (.int .i64 (.ofNat 0))), some 2, none⟩, []⟩,
    ⟨⟨.mv (.const (.bool false)), some 3, none⟩, []⟩])
  (.seq (.seq (.region false [⟨⟨.mv (.slot 0), some 4, none⟩, []⟩,
    ⟨⟨.bin .eql 22 .ptr (.slot 4) (.const .nilp), some 5, none⟩, []⟩,
    ⟨⟨.mv (.slot 5), some 6, none⟩, []⟩,
    ⟨⟨.mv (.slot 0), some 7, some (6, false)⟩, []⟩,
    ⟨⟨.nilCheck (.slot 7), some 8, some (6, false)⟩, []⟩,
    ⟨⟨.faddr 3 (.slot 8), some 9, some (6, false)⟩, []⟩,
    ⟨⟨.load false 1 (.slot 9), some 10, some (6, false)⟩, []⟩,
    ⟨⟨.len .map (.slot 10), some 11, some (6, false)⟩, []⟩,
    ⟨⟨.bin .eql 3 .num (.slot 11) (.const (.int .i64 (.ofNat 0))), some 12, some (6, false)⟩, []⟩,
    ⟨⟨.pick (.slot 6) (.const (.bool true)) (.slot 12), some 13, none⟩, []⟩])
  (.cond (.slot 13)
   (.seq (.region false [⟨⟨.mv (.const (.int .i64 (.ofNat 0))), some 2, none⟩, []⟩,
     ⟨⟨.mv (.const (.bool false)), some 3, none⟩, []⟩])
   .ret)
   .skip))
  (.seq (.region false [⟨⟨.mv (.slot 0), some 14, none⟩, []⟩,
    ⟨⟨.nilCheck (.slot 14), some 15, none⟩, []⟩,
    ⟨⟨.faddr 3 (.slot 15), some 16, none⟩, []⟩,
    ⟨⟨.load false 1 (.slot 16), some 17, none⟩, []⟩,
    ⟨⟨.call (.const (.func 25 [] [])) [(.slot 17)], some 18, none⟩, []⟩,
    ⟨⟨.call (.const (.func 24 [] [])) [(.slot 18)], some 19, none⟩, []⟩,
    ⟨⟨.call (.const (.func 23 [] [])) [(.slot 19)], some 20, none⟩, []⟩,
    ⟨⟨.mv (.slot 20), some 2, none⟩, []⟩,
    ⟨⟨.mv (.const (.bool true)), some 3, none⟩, []⟩])
  .ret))),
  [.tmp 2, .tmp 3]⟩
theorem xf10_ok : compFunc Tryz.prog Tryz.f10 = some xf10 := by kernel_rfl
/-- threshing/threshinglaw21.works -/
def xf11 : XFunc := ⟨(.seq (.region false [⟨⟨.mv (.const (.bool false)), some 0, none⟩, []⟩])
  (.seq (.region false [⟨⟨.bslice 1 [(.int .i32 (.ofNat 0)), (.int .i32 (.ofNat 0))] [(0, 1, (.const (.int .i32 (.negSucc 0)))), (1, 1, (.const (.int .i32 (.ofNat 2))))] 2, some 6, none⟩, []⟩,
    ⟨⟨.bslice 1 [(.int .i32 (.ofNat 0)), (.int .i32 (.ofNat 0)), (.int .i32 (.ofNat 0))] [(0, 1, (.const (.int .i32 (.negSucc 0)))), (1, 1, (.const (.int .i32 (.negSucc 1)))), (2, 1, (.const (.int .i32 (.ofNat 3))))] 3, some 7, none⟩, []⟩,
    ⟨⟨.bslice 1 [(.int .i32 (.ofNat 0)), (.int .i32 (.ofNat 0))] [(0, 1, (.const (.int .i32 (.negSucc 0)))), (1, 1, (.const (.int .i32 (.negSucc 2))))] 2, some 8, none⟩, []⟩,
    ⟨⟨.bslice 1 [.nils, .nils, .nils] [(0, 1, (.slot 6)), (1, 1, (.slot 7)), (2, 1, (.slot 8))] 3, some 9, none⟩, []⟩,
    ⟨⟨.call (.const (.func 4 [] [])) [(.slot 9)], some 10, none⟩, []⟩,
    ⟨⟨.mv (.slot 10), some 1, none⟩, []⟩])
  (.seq (.region false [⟨⟨.mv (.slot 1), some 12, none⟩, []⟩,
    ⟨⟨.call (.const (.func 5 [] [])) [(.slot 12), (.const (.int .i64 (.ofNat 9)))], some 13, none⟩, []⟩,
    ⟨⟨.mv (.slot 13), some 11, none⟩, []⟩,
    ⟨⟨.extract (.slot 11) 0, some 14, none⟩, []⟩,
    ⟨⟨.extract (.slot 11) 1, some 15, none⟩, []⟩,
    ⟨⟨.mv (.slot 14), some 2, none⟩, []⟩,
    ⟨⟨.mv (.slot 15), some 3, none⟩, []⟩])
  (.seq (.region false [⟨⟨.mv (.slot 1), some 17, none⟩, []⟩,
    ⟨⟨.call (.const (.func 6 [] [])) [(.slot 17), (.const (.int .i64 (.ofNat 4)))], some 18, none⟩, []⟩,
    ⟨⟨.mv (.slot 18), some 16, none⟩, []⟩,
    ⟨⟨.extract (.slot 16) 0, some 19, none⟩, []⟩,
    ⟨⟨.extract (.slot 16) 1, some 20, none⟩, []⟩,
    ⟨⟨.alloc [(.int .i64 (.ofNat 0)), .nils, (.bool false)], some 4, none⟩, []⟩,
    ⟨⟨.store 3 (.slot 4) (.slot 19), none, none⟩, []⟩,
    ⟨⟨.mv (.slot 20), some 5, none⟩, []⟩])
  (.seq (.region false [⟨⟨.mv (.slot 2), some 21, none⟩, []⟩,
    ⟨⟨.bin .eql 3 .num (.slot 21) (.const (.int .i64 (.ofNat 1))), some 22, none⟩, []⟩,
    ⟨⟨.mv (.slot 22), some 23, none⟩, []⟩,
    ⟨⟨.mv (.slot 3), some 24, some (23, true)⟩, []⟩,
    ⟨⟨.bin .eql 27 .num (.slot 24) (.const (.int .i64 (.ofNat 0))), some 25, some (23, true)⟩, []⟩,
    ⟨⟨.pick (.slot 23) (.slot 25) (.const (.bool false)), some 26, none⟩, []⟩,
    ⟨⟨.mv (.slot 26), some 27, none⟩, []⟩,
    ⟨⟨.mv (.slot 5), some 28, some (27, true)⟩, []⟩,
    ⟨⟨.pick (.slot 27) (.slot 28) (.const (.bool false)), some 29, none⟩, []⟩,
    ⟨⟨.mv (.slot 29), some 30, none⟩, []⟩,
    ⟨⟨.faddr 1 (.slot 4), some 31, some (30, true)⟩, []⟩,
    ⟨⟨.load false 1 (.slot 31), some 32, some (30, true)⟩, []⟩,
    ⟨⟨.bslice 1 [(.int .i32 (.ofNat 0))] [(0, 1, (.const (.int .i32 (.negSucc 0))))] 1, some 33, some (30, true)⟩, []⟩,
    ⟨⟨.call (.const (.func 7 [] [])) [(.slot 32), (.slot 33)], some 34, some (30, true)⟩, []⟩,
    ⟨⟨.pick (.slot 30) (.slot 34) (.const (.bool false)), some 35, none⟩, []⟩,
    ⟨⟨.mv (.slot 35), some 36, none⟩, []⟩,
    ⟨⟨.faddr 2 (.slot 4), some 37, some (36, true)⟩, []⟩,
    ⟨⟨.load false 1 (.slot 37), some 38, some (36, true)⟩, []⟩,
    ⟨⟨.un .not (.slot 38), some 39, some (36, true)⟩, []⟩,
    ⟨⟨.pick (.slot 36) (.slot 39) (.const (.bool false)), some 40, none⟩, []⟩,
    ⟨⟨.mv (.slot 40), some 0, none⟩, []⟩])
  .ret))))),
  [.tmp 0]⟩
theorem xf11_ok : compFunc Tryz.prog Tryz.f11 = some xf11 := by kernel_rfl
/-- threshing/base.New -/
def xf12 : XFunc := ⟨(.seq (.region false [⟨⟨.box (.slot 0), some 1, none⟩, []⟩,
    ⟨⟨.mv (.const .nilp), some 2, none⟩, []⟩,
    ⟨⟨.mv (.const (.int .i64 (.ofNat 0))), some 3, none⟩, []⟩])
  (.seq (.seq (.region false [⟨⟨.load true 2 (.slot 1), some 8, none⟩, []⟩,
    ⟨⟨.call (.const (.func 26 [] [])) [(.slot 8)], some 9, none⟩, []⟩,
    ⟨⟨.mv (.slot 9), some 4, none⟩, []⟩])
  (.seq (.region false [⟨⟨.mv (.slot 4), some 10, none⟩, []⟩,
    ⟨⟨.bin .neq 27 .num (.slot 10) (.const (.int .i64 (.ofNat 0))), some 11, none⟩, []⟩])
  (.cond (.slot 11)
   (.seq (.region false [⟨⟨.mv (.slot 4), some 12, none⟩, []⟩,
     ⟨⟨.mv (.const .nilp), some 2, none⟩, []⟩,
     ⟨⟨.mv (.slot 12), some 3, none⟩, []⟩])
   .ret)
   .skip)))
  (.seq (.region false [⟨⟨.faddr 0 (.slot 1), some 13, none⟩, []⟩,
    ⟨⟨.load false 1 (.slot 13), some 14, none⟩, []⟩,
    ⟨⟨.mkmap .i64, some 15, none⟩, []⟩,
    ⟨⟨.mkmap .i32, some 16, none⟩, []⟩,
    ⟨⟨.mkmap .i64, some 17, none⟩, []⟩,
    ⟨⟨.build [(.int .i64 (.ofNat 0)), .nilm, .nilm, .nilm, (.int .i64 (.ofNat 0)), .nils, .nils, .nils] [(0, 1, (.slot 14)), (1, 1, (.slot 15)), (2, 1, (.slot 16)), (3, 1, (.slot 17))], some 18, none⟩, []⟩,
    ⟨⟨.box (.slot 18), some 19, none⟩, []⟩,
    ⟨⟨.mv (.slot 19), some 5, none⟩, []⟩])
  (.seq (.seq (.region false [⟨⟨.faddr 1 (.slot 1), some 20, none⟩, []⟩,
    ⟨⟨.load false 1 (.slot 20), some 21, none⟩, []⟩,
    ⟨⟨.len .slice (.slot 21), some 22, none⟩, []⟩,
    ⟨⟨.mv (.const (.int .i64 (.ofNat 0))), some 23, none⟩, []⟩])
  (.block 0 (.loop (.seq (.region false [⟨⟨.bin .lss 3 .num (.slot 23) (.slot 22), some 24, none⟩, []⟩])
   (.seq (.cond (.slot 24)
    .skip
    (.exit 0))
   (.seq (.block 1 (.seq (.region false [⟨⟨.iaddr 1 (.slot 21) (.slot 23), some 25, none⟩, []⟩,
     ⟨⟨.load false 1 (.slot 25), some 26, none⟩, []⟩,
     ⟨⟨.mv (.slot 26), some 7, none⟩, []⟩])
   (.region false [⟨⟨.mv (.slot 5), some 27, none⟩, []⟩,
     ⟨⟨.mv (.slot 7), some 28, none⟩, []⟩,
     ⟨⟨.call (.const (.func 27 [] [])) [(.slot 27), (.slot 28), (.const (.bool false))], some 29, none⟩, []⟩])))
   (.region false [⟨⟨.bin .add 3 .num (.slot 23) (.const (.int .i64 (.ofNat 1))), some 30, none⟩, []⟩,
     ⟨⟨.mv (.slot 30), some 23, none⟩, []⟩])))))))
  (.seq (.region false [⟨⟨.mv (.slot 5), some 31, none⟩, []⟩,
    ⟨⟨.mv (.slot 31), some 2, none⟩, []⟩,
    ⟨⟨.mv (.const (.int .i64 (.ofNat 0))), some 3, none⟩, []⟩])
  .ret))))),
  [.tmp 2, .tmp 3]⟩
theorem xf12_ok : compFunc Tryz.prog Tryz.f12 = some xf12 := by kernel_rfl
/-- (*threshing/base.Base).Vars -/
def xf13 : XFunc := ⟨(.seq (.region false [⟨⟨.mv (.const (.int .i64 (.ofNat 0))), some 2, none⟩, []⟩])
  (.seq (.seq (.region false [⟨⟨.mv (.slot 0), some 3, none⟩, []⟩,
    ⟨⟨.bin .eql 22 .ptr (.slot 3) (.const .nilp), some 4, none⟩, []⟩])
  (.cond (.slot 4)
   (.seq (.region false [⟨⟨.mv (.const (.int .i64 (.ofNat 0))), some 2, none⟩, []⟩])
   .ret)
   .skip))
  (.seq (.region false [⟨⟨.mv (.slot 0), some 5, none⟩, []⟩,
    ⟨⟨.nilCheck (.slot 5), some 6, none⟩, []⟩,
    ⟨⟨.faddr 0 (.slot 6), some 7, none⟩, []⟩,
    ⟨⟨.load false 1 (.slot 7), some 8, none⟩, []⟩,
    ⟨⟨.mv (.slot 8), some 2, none⟩, []⟩])
  .ret))),
  [.tmp 2]⟩
theorem xf13_ok : compFunc Tryz.prog Tryz.f13 = some xf13 := by kernel_rfl
/-- (*threshing/probe.prober).full -/
def xf14 : XFunc := ⟨(.seq (.region false [⟨⟨.mv (.const (.bool false)), some 2, none⟩, []⟩])
  (.seq (.region true [⟨⟨.mv (.slot 0), some 3, none⟩, []⟩,
    ⟨⟨.nilCheck (.slot 3), some 4, none⟩, []⟩,
    ⟨⟨.faddr 3 (.slot 4), some 5, none⟩, []⟩,
    ⟨⟨.load false 1 (.slot 5), some 6, none⟩, []⟩,
    ⟨⟨.bin .neq 27 .num (.slot 6) (.const (.int .i64 (.ofNat 0))), some 7, none⟩, []⟩,
    ⟨⟨.mv (.slot 7), some 8, none⟩, []⟩,
    ⟨⟨.mv (.slot 0), some 9, some (8, false)⟩, []⟩,
    ⟨⟨.nilCheck (.slot 9), some 10, some (8, false)⟩, []⟩,
    ⟨⟨.faddr 1 (.slot 10), some 11, some (8, false)⟩, []⟩,
    ⟨⟨.load false 1 (.slot 11), some 12, some (8, false)⟩, []⟩,
    ⟨⟨.mv (.slot 0), some 13, some (8, false)⟩, []⟩,
    ⟨⟨.nilCheck (.slot 13), some 14, some (8, false)⟩, []⟩,
    ⟨⟨.faddr 2 (.slot 14), some 15, some (8, false)⟩, []⟩,
    ⟨⟨.load false 1 (.slot 15), some 16, some (8, false)⟩, []⟩,
    ⟨⟨.bin .geq 3 .num (.slot 12) (.slot 16), some 17, some (8, false)⟩, []⟩,
    ⟨⟨.pick (.slot 8) (.const (.bool true)) (.slot 17), some 18, none⟩, []⟩,
    ⟨⟨.mv (.slot 18), some 2, none⟩, []⟩])
  .ret)),
  [.tmp 2]⟩
theorem xf14_ok : compFunc Tryz.prog Tryz.f14 = some xf14 := by kernel_rfl
/-- threshing/unit.Propagate -/
def xf15 : XFunc := ⟨(.seq (.region false [⟨⟨.alloc [.nils, .nils, (.int .i64 (.ofNat 0))], some 6, none⟩, []⟩,
    ⟨⟨.mv (.const (.int .i64 (.ofNat 0))), some 7, none⟩, []⟩])
  (.seq (.seq (.region false [⟨⟨.mv (.slot 0), some 25, none⟩, []⟩,
    ⟨⟨.bin .eql 22 .ptr (.slot 25) (.const .nilp), some 26, none⟩, []⟩])
  (.cond (.slot 26)
   (.seq (.region false [⟨⟨.build [.nils, .nils, (.int .i64 (.ofNat 0))] [], some 27, none⟩, []⟩,
     ⟨⟨.store 3 (.slot 6) (.slot 27), none, none⟩, []⟩,
     ⟨⟨.mv (.const (.int .i64 (.ofNat 1))), some 7, none⟩, []⟩])
   .ret)
   .skip))
  (.seq (.seq (.region false [⟨⟨.mv (.slot 1), some 28, none⟩, []⟩,
    ⟨⟨.len .slice (.slot 28), some 29, none⟩, []⟩,
    ⟨⟨.mv (.const (.int .i64 (.ofNat 0))), some 30, none⟩, []⟩])
  (.block 0 (.loop (.seq (.region false [⟨⟨.bin .lss 3 .num (.slot 30) (.slot 29), some 31, none⟩, []⟩])
   (.seq (.cond (.slot 31)
    .skip
    (.exit 0))
   (.seq (.block 1 (.seq (.region false [⟨⟨.iaddr 1 (.slot 28) (.slot 30), some 32, none⟩, []⟩,
     ⟨⟨.load false 1 (.slot 32), some 33, none⟩, []⟩,
     ⟨⟨.mv (.slot 33), some 9, none⟩, []⟩])
   (.seq (.region false [⟨⟨.mv (.slot 9), some 34, none⟩, []⟩,
     ⟨⟨.bin .eql 24 .num (.slot 34) (.const (.int .i32 (.ofNat 0))), some 35, none⟩, []⟩,
     ⟨⟨.mv (.slot 35), some 36, none⟩, []⟩,
     ⟨⟨.mv (.slot 9), some 37, some (36, false)⟩, []⟩,
     ⟨⟨.call (.const (.func 28 [] [])) [(.slot 37)], some 38, some (36, false)⟩, []⟩,
     ⟨⟨.mv (.slot 0), some 39, some (36, false)⟩, []⟩,
     ⟨⟨.call (.const (.func 13 [] [])) [(.slot 39)], some 40, some (36, false)⟩, []⟩,
     ⟨⟨.bin .gtr 3 .num (.slot 38) (.slot 40), some 41, some (36, false)⟩, []⟩,
     ⟨⟨.pick (.slot 36) (.const (.bool true)) (.slot 41), some 42, none⟩, []⟩])
   (.cond (.slot 42)
    (.seq (.region false [⟨⟨.build [.nils, .nils, (.int .i64 (.ofNat 0))] [], some 43, none⟩, []⟩,
      ⟨⟨.store 3 (.slot 6) (.slot 43), none, none⟩, []⟩,
      ⟨⟨.mv (.const (.int .i64 (.ofNat 4))), some 7, none⟩, []⟩])
    .ret)
    .skip))))
   (.region false [⟨⟨.bin .add 3 .num (.slot 30) (.const (.int .i64 (.ofNat 1))), some 44, none⟩, []⟩,
     ⟨⟨.mv (.slot 44), some 30, none⟩, []⟩])))))))
  (.seq (.seq (.region false [⟨⟨.mv (.slot 1), some 46, none⟩, []⟩,
    ⟨⟨.call (.const (.func 29 [] [])) [(.slot 46)], some 47, none⟩, []⟩,
    ⟨⟨.mv (.slot 47), some 45, none⟩, []⟩,
    ⟨⟨.extract (.slot 45) 0, some 48, none⟩, []⟩,
    ⟨⟨.extract (.slot 45) 1, some 49, none⟩, []⟩,
    ⟨⟨.mv (.slot 48), some 10, none⟩, []⟩,
    ⟨⟨.mv (.slot 49), some 11, none⟩, []⟩])
  (.seq (.region false [⟨⟨.mv (.slot 11), some 50, none⟩, []⟩])
  (.cond (.slot 50)
   (.seq (.region false [⟨⟨.build [.nils, .nils, (.int .i64 (.ofNat 0))] [], some 51, none⟩, []⟩,
     ⟨⟨.store 3 (.slot 6) (.slot 51), none, none⟩, []⟩,
     ⟨⟨.mv (.const (.int .i64 (.ofNat 2))), some 7, none⟩, []⟩])
   .ret)
   .skip)))
  (.seq (.region false [⟨⟨.mkmap .i64, some 52, none⟩, []⟩,
    ⟨⟨.mkmap .i64, some 53, none⟩, []⟩,
    ⟨⟨.mkmap .i32, some 54, none⟩, []⟩,
    ⟨⟨.mkmap .i32, some 55, none⟩, []⟩,
    ⟨⟨.build [.nilm, .nilm, .nilm, .nilm, .nils] [(0, 1, (.slot 52)), (1, 1, (.slot 53)), (2, 1, (.slot 54)), (3, 1, (.slot 55)), (4, 1, (.const .nils))], some 56, none⟩, []⟩,
    ⟨⟨.box (.slot 56), some 57, none⟩, []⟩,
    ⟨⟨.mv (.slot 57), some 12, none⟩, []⟩])
  (.seq (.seq (.region false [⟨⟨.mv (.slot 0), some 58, none⟩, []⟩,
    ⟨⟨.call (.const (.func 9 [] [])) [(.slot 58)], some 59, none⟩, []⟩,
    ⟨⟨.len .slice (.slot 59), some 60, none⟩, []⟩,
    ⟨⟨.mv (.const (.int .i64 (.ofNat 0))), some 61, none⟩, []⟩])
  (.block 2 (.loop (.seq (.region false [⟨⟨.bin .lss 3 .num (.slot 61) (.slot 60), some 62, none⟩, []⟩])
   (.seq (.cond (.slot 62)
    .skip
    (.exit 2))
   (.seq (.block 3 (.seq (.region false [⟨⟨.iaddr 3 (.slot 59) (.slot 61), some 63, none⟩, []⟩,
     ⟨⟨.load true 3 (.slot 63), some 64, none⟩, []⟩,
     ⟨⟨.alloc [(.int .i64 (.ofNat 0)), .nils, (.bool false)], some 14, none⟩, []⟩,
     ⟨⟨.store 3 (.slot 14) (.slot 64), none, none⟩, []⟩])
   (.seq (.seq (.region false [⟨⟨.faddr 0 (.slot 14), some 65, none⟩, []⟩,
     ⟨⟨.load false 1 (.slot 65), some 66, none⟩, []⟩,
     ⟨⟨.mv (.slot 2), some 67, none⟩, []⟩,
     ⟨⟨.bin .eql 2 .num (.slot 66) (.slot 67), some 68, none⟩, []⟩])
   (.cond (.slot 68)
    (.exit 3)
    .skip))
   (.seq (.region false [⟨⟨.faddr 1 (.slot 14), some 70, none⟩, []⟩,
     ⟨⟨.load false 1 (.slot 70), some 71, none⟩, []⟩,
     ⟨⟨.call (.const (.func 29 [] [])) [(.slot 71)], some 72, none⟩, []⟩,
     ⟨⟨.mv (.slot 72), some 69, none⟩, []⟩,
     ⟨⟨.extract (.slot 69) 0, some 73, none⟩, []⟩,
     ⟨⟨.extract (.slot 69) 1, some 74, none⟩, []⟩,
     ⟨⟨.mv (.slot 73), some 15, none⟩, []⟩,
     ⟨⟨.mv (.slot 74), some 16, none⟩, []⟩])
   (.seq (.region true [⟨⟨.mv (.slot 12), some 75, none⟩, []⟩,
     ⟨⟨.nilCheck (.slot 75), some 76, none⟩, []⟩,
     ⟨⟨.faddr 0 (.slot 76), some 77, none⟩, []⟩,
     ⟨⟨.load false 1 (.slot 77), some 78, none⟩, []⟩,
     ⟨⟨.faddr 0 (.slot 14), some 79, none⟩, []⟩,
     ⟨⟨.load false 1 (.slot 79), some 80, none⟩, []⟩,
     ⟨⟨.mv (.slot 12), some 81, none⟩, []⟩,
     ⟨⟨.nilCheck (.slot 81), some 82, none⟩, []⟩,
     ⟨⟨.faddr 1 (.slot 82), some 83, none⟩, []⟩,
     ⟨⟨.load false 1 (.slot 83), some 84, none⟩, []⟩,
     ⟨⟨.faddr 0 (.slot 14), some 85, none⟩, []⟩,
     ⟨⟨.load false 1 (.slot 85), some 86, none⟩, []⟩,
     ⟨⟨.mv (.slot 15), some 87, none⟩, []⟩,
     ⟨⟨.mv (.slot 15), some 88, none⟩, []⟩,
     ⟨⟨.len .slice (.slot 88), some 89, none⟩, []⟩,
     ⟨⟨.mentry .nils (.slot 78) (.slot 80), some 90, none⟩, [⟨.load false 1 (.slot 85), some 86, none⟩, ⟨.len .slice (.slot 88), some 89, none⟩]⟩,
     ⟨⟨.extract (.slot 90) 1, some 91, none⟩, []⟩,
     ⟨⟨.estore (.slot 78) (.slot 91) (.slot 87), none, none⟩, [⟨.load false 1 (.slot 85), some 86, none⟩, ⟨.len .slice (.slot 88), some 89, none⟩]⟩,
     ⟨⟨.mentry (.int .i64 (.ofNat 0)) (.slot 84) (.slot 86), some 92, none⟩, [⟨.len .slice (.slot 88), some 89, none⟩]⟩,
     ⟨⟨.extract (.slot 92) 1, some 93, none⟩, []⟩,
     ⟨⟨.estore (.slot 84) (.slot 93) (.slot 89), none, none⟩, []⟩])
   (.seq (.seq (.region false [⟨⟨.mv (.slot 15), some 94, none⟩, []⟩,
     ⟨⟨.len .slice (.slot 94), some 95, none⟩, []⟩,
     ⟨⟨.mv (.const (.int .i64 (.ofNat 0))), some 96, none⟩, []⟩])
   (.block 4 (.loop (.seq (.region false [⟨⟨.bin .lss 3 .num (.slot 96) (.slot 95), some 97, none⟩, []⟩])
    (.seq (.cond (.slot 97)
     .skip
     (.exit 4))
    (.seq (.block 5 (.seq (.region false [⟨⟨.iaddr 1 (.slot 94) (.slot 96), some 98, none⟩, []⟩,
      ⟨⟨.load false 1 (.slot 98), some 99, none⟩, []⟩,
      ⟨⟨.mv (.slot 99), some 18, none⟩, []⟩])
    (.region true [⟨⟨.mv (.slot 12), some 100, none⟩, []⟩,
      ⟨⟨.nilCheck (.slot 100), some 101, none⟩, []⟩,
      ⟨⟨.faddr 2 (.slot 101), some 102, none⟩, []⟩,
      ⟨⟨.load false 1 (.slot 102), some 103, none⟩, []⟩,
      ⟨⟨.mv (.slot 18), some 104, none⟩, []⟩,
      ⟨⟨.mv (.slot 12), some 105, none⟩, []⟩,
      ⟨⟨.nilCheck (.slot 105), some 106, none⟩, []⟩,
      ⟨⟨.faddr 2 (.slot 106), some 107, none⟩, []⟩,
      ⟨⟨.load false 1 (.slot 107), some 108, none⟩, []⟩,
      ⟨⟨.mv (.slot 18), some 109, none⟩, []⟩,
      ⟨⟨.lookup .i32 .nils (.slot 108) (.slot 109) false, some 110, none⟩, []⟩,
      ⟨⟨.faddr 0 (.slot 14), some 111, none⟩, []⟩,
      ⟨⟨.load false 1 (.slot 111), some 112, none⟩, []⟩,
      ⟨⟨.bslice 1 [(.int .i64 (.ofNat 0))] [(0, 1, (.slot 112))] 1, some 113, none⟩, [⟨.load false 1 (.slot 102), some 103, none⟩, ⟨.load false 1 (.slot 107), some 108, none⟩, ⟨.lookup .i32 .nils (.slot 108) (.slot 109) false, some 110, none⟩]⟩,
      ⟨⟨.append 1 8 (.slot 110) (.slot 113), some 114, none⟩, [⟨.load false 1 (.slot 102), some 103, none⟩]⟩,
      ⟨⟨.mapup .i32 (.slot 103) (.slot 104) (.slot 114), none, none⟩, []⟩])))
    (.region false [⟨⟨.bin .add 3 .num (.slot 96) (.const (.int .i64 (.ofNat 1))), some 115, none⟩, []⟩,
      ⟨⟨.mv (.slot 115), some 96, none⟩, []⟩])))))))
   (.seq (.region false [⟨⟨.mv (.slot 15), some 116, none⟩, []⟩,
     ⟨⟨.len .slice (.slot 116), some 117, none⟩, []⟩,
     ⟨⟨.bin .leq 3 .num (.slot 117) (.const (.int .i64 (.ofNat 1))), some 118, none⟩, []⟩])
   (.cond (.slot 118)
    (.region true [⟨⟨.mv (.slot 12), some 119, none⟩, []⟩,
      ⟨⟨.mv (.slot 12), some 120, none⟩, []⟩,
      ⟨⟨.nilCheck (.slot 120), some 121, none⟩, []⟩,
      ⟨⟨.faddr 4 (.slot 121), some 122, none⟩, []⟩,
      ⟨⟨.load false 1 (.slot 122), some 123, none⟩, []⟩,
      ⟨⟨.faddr 0 (.slot 14), some 124, none⟩, []⟩,
      ⟨⟨.load false 1 (.slot 124), some 125, none⟩, []⟩,
      ⟨⟨.bslice 1 [(.int .i64 (.ofNat 0))] [(0, 1, (.slot 125))] 1, some 126, none⟩, [⟨.load false 1 (.slot 122), some 123, none⟩]⟩,
      ⟨⟨.append 1 8 (.slot 123) (.slot 126), some 127, none⟩, []⟩,
      ⟨⟨.nilCheck (.slot 119), some 128, none⟩, []⟩,
      ⟨⟨.faddr 4 (.slot 128), some 129, none⟩, []⟩,
      ⟨⟨.store 1 (.slot 129) (.slot 127), none, none⟩, []⟩])
    .skip))))))))
   (.region false [⟨⟨.bin .add 3 .num (.slot 61) (.const (.int .i64 (.ofNat 1))), some 130, none⟩, []⟩,
     ⟨⟨.mv (.slot 130), some 61, none⟩, []⟩])))))))
  (.seq (.region false [⟨⟨.mv (.slot 12), some 131, none⟩, []⟩,
    ⟨⟨.nilCheck (.slot 131), some 132, none⟩, []⟩,
    ⟨⟨.faddr 4 (.slot 132), some 133, none⟩, []⟩,
    ⟨⟨.mkif 88 (.slot 133), some 134, none⟩, []⟩,
    ⟨⟨.call (.const (.func 30 [] [])) [(.slot 134)], some 135, none⟩, []⟩])
  (.seq (.region false [⟨⟨.alloc [.nils, .nils, (.int .i64 (.ofNat 0))], some 19, none⟩, []⟩])
  (.seq (.seq (.region false [⟨⟨.mv (.slot 1), some 136, none⟩, []⟩,
    ⟨⟨.len .slice (.slot 136), some 137, none⟩, []⟩,
    ⟨⟨.mv (.const (.int .i64 (.ofNat 0))), some 138, none⟩, []⟩])
  (.block 6 (.loop (.seq (.region false [⟨⟨.bin .lss 3 .num (.slot 138) (.slot 137), some 139, none⟩, []⟩])
   (.seq (.cond (.slot 139)
    .skip
    (.exit 6))
   (.seq (.block 7 (.seq (.region false [⟨⟨.iaddr 1 (.slot 136) (.slot 138), some 140, none⟩, []⟩,
     ⟨⟨.load false 1 (.slot 140), some 141, none⟩, []⟩,
     ⟨⟨.mv (.slot 141), some 21, none⟩, []⟩])
   (.seq (.region false [⟨⟨.mv (.slot 12), some 142, none⟩, []⟩,
     ⟨⟨.nilCheck (.slot 142), some 143, none⟩, []⟩,
     ⟨⟨.faddr 3 (.slot 143), some 144, none⟩, []⟩,
     ⟨⟨.load false 1 (.slot 144), some 145, none⟩, []⟩,
     ⟨⟨.mv (.slot 21), some 146, none⟩, []⟩,
     ⟨⟨.lookup .i32 (.bool false) (.slot 145) (.slot 146) false, some 147, none⟩, []⟩,
     ⟨⟨.un .not (.slot 147), some 148, none⟩, []⟩])
   (.cond (.slot 148)
    (.seq (.region false [⟨⟨.faddr 0 (.slot 19), some 149, none⟩, []⟩,
      ⟨⟨.load false 1 (.slot 149), some 150, none⟩, []⟩,
      ⟨⟨.mv (.slot 21), some 151, none⟩, []⟩,
      ⟨⟨.bslice 1 [(.int .i32 (.ofNat 0))] [(0, 1, (.slot 151))] 1, some 152, none⟩, []⟩,
      ⟨⟨.append 1 4 (.slot 150) (.slot 152), some 153, none⟩, []⟩,
      ⟨⟨.faddr 0 (.slot 19), some 154, none⟩, []⟩,
      ⟨⟨.store 1 (.slot 154) (.slot 153), none, none⟩, []⟩])
    (.region false [⟨⟨.mv (.slot 12), some 155, none⟩, []⟩,
      ⟨⟨.mv (.slot 21), some 156, none⟩, []⟩,
      ⟨⟨.call (.const (.func 31 [] [])) [(.slot 155), (.slot 156)], some 157, none⟩, []⟩]))
    .skip))))
   (.region false [⟨⟨.bin .add 3 .num (.slot 138) (.const (.int .i64 (.ofNat 1))), some 158, none⟩, []⟩,
     ⟨⟨.mv (.slot 158), some 138, none⟩, []⟩])))))))
  (.block 8 (.loop (.block 9 (.seq (.region false [⟨⟨.mv (.slot 12), some 160, none⟩, []⟩,
     ⟨⟨.call (.const (.func 32 [] [])) [(.slot 160)], some 161, none⟩, []⟩,
     ⟨⟨.mv (.slot 161), some 159, none⟩, []⟩,
     ⟨⟨.extract (.slot 159) 0, some 162, none⟩, []⟩,
     ⟨⟨.extract (.slot 159) 1, some 163, none⟩, []⟩,
     ⟨⟨.extract (.slot 159) 2, some 164, none⟩, []⟩,
     ⟨⟨.mv (.slot 162), some 22, none⟩, []⟩,
     ⟨⟨.mv (.slot 163), some 23, none⟩, []⟩,
     ⟨⟨.mv (.slot 164), some 24, none⟩, []⟩])
   (.seq (.block 10 (.seq (.region false [⟨⟨.mv (.slot 24), some 166, none⟩, []⟩,
     ⟨⟨.un .not (.slot 166), some 167, none⟩, []⟩,
     ⟨⟨.mv (.slot 167), some 165, none⟩, []⟩])
   (.cond (.slot 165)
    (.seq (.region false [⟨⟨.load true 3 (.slot 19), some 168, none⟩, []⟩,
      ⟨⟨.store 3 (.slot 6) (.slot 168), none, none⟩, []⟩,
      ⟨⟨.mv (.const (.int .i64 (.ofNat 0))), some 7, none⟩, []⟩])
    .ret)
    (.seq (.region false [⟨⟨.mv (.slot 23), some 170, none⟩, []⟩,
      ⟨⟨.bin .eql 24 .num (.slot 170) (.const (.int .i32 (.ofNat 0))), some 171, none⟩, []⟩,
      ⟨⟨.mv (.slot 171), some 169, none⟩, []⟩])
    (.cond (.slot 169)
     (.seq (.region false [⟨⟨.mv (.slot 22), some 172, none⟩, []⟩,
       ⟨⟨.faddr 2 (.slot 19), some 173, none⟩, []⟩,
       ⟨⟨.store 1 (.slot 173) (.slot 172), none, none⟩, []⟩])
     (.seq (.region false [⟨⟨.load true 3 (.slot 19), some 174, none⟩, []⟩,
       ⟨⟨.store 3 (.slot 6) (.slot 174), none, none⟩, []⟩,
       ⟨⟨.mv (.const (.int .i64 (.ofNat 0))), some 7, none⟩, []⟩])
     .ret))
     .skip)))))
   (.seq (.region true [⟨⟨.faddr 0 (.slot 19), some 175, none⟩, []⟩,
     ⟨⟨.load false 1 (.slot 175), some 176, none⟩, []⟩,
     ⟨⟨.mv (.slot 23), some 177, none⟩, []⟩,
     ⟨⟨.faddr 1 (.slot 19), some 180, none⟩, []⟩,
     ⟨⟨.load false 1 (.slot 180), some 181, none⟩, []⟩,
     ⟨⟨.mv (.slot 22), some 182, none⟩, []⟩,
     ⟨⟨.bslice 1 [(.int .i32 (.ofNat 0))] [(0, 1, (.slot 177))] 1, some 178, none⟩, [⟨.load false 1 (.slot 175), some 176, none⟩, ⟨.load false 1 (.slot 180), some 181, none⟩]⟩,
     ⟨⟨.append 1 4 (.slot 176) (.slot 178), some 179, none⟩, [⟨.load false 1 (.slot 180), some 181, none⟩]⟩,
     ⟨⟨.faddr 0 (.slot 19), some 185, none⟩, []⟩,
     ⟨⟨.bslice 1 [(.int .i64 (.ofNat 0))] [(0, 1, (.slot 182))] 1, some 183, none⟩, [⟨.load false 1 (.slot 175), some 176, none⟩, ⟨.load false 1 (.slot 180), some 181, none⟩]⟩,
     ⟨⟨.append 1 8 (.slot 181) (.slot 183), some 184, none⟩, []⟩,
     ⟨⟨.store 1 (.slot 185) (.slot 179), none, none⟩, []⟩,
     ⟨⟨.faddr 1 (.slot 19), some 186, none⟩, []⟩,
     ⟨⟨.store 1 (.slot 186) (.slot 184), none, none⟩, []⟩])
   (.region false [⟨⟨.mv (.slot 12), some 187, none⟩, []⟩,
     ⟨⟨.mv (.slot 23), some 188, none⟩, []⟩,
     ⟨⟨.call (.const (.func 31 [] [])) [(.slot 187), (.slot 188)], some 189, none⟩, []⟩])))))))))))))))),
  [.cell 6 true 3, .tmp 7]⟩
theorem xf15_ok : compFunc Tryz.prog Tryz.f15 = some xf15 := by kernel_rfl
/-- (*threshing/probe.prober).add -/
def xf16 : XFunc := ⟨(.seq (.region false [⟨⟨.mv (.slot 0), some 11, none⟩, []⟩,
    ⟨⟨.nilCheck (.slot 11), some 12, none⟩, []⟩,
    ⟨⟨.faddr 0 (.slot 12), some 13, none⟩, []⟩,
    ⟨⟨.load false 1 (.slot 13), some 14, none⟩, []⟩,
    ⟨⟨.mv (.slot 1), some 15, none⟩, []⟩,
    ⟨⟨.mv (.slot 2), some 16, none⟩, []⟩,
    ⟨⟨.mv (.slot 3), some 17, none⟩, []⟩,
    ⟨⟨.call (.const (.func 33 [] [])) [(.slot 14), (.slot 15), (.slot 16), (.slot 17)], some 18, none⟩, []⟩,
    ⟨⟨.mv (.slot 18), some 10, none⟩, []⟩,
    ⟨⟨.extract (.slot 10) 0, some 19, none⟩, []⟩,
    ⟨⟨.extract (.slot 10) 1, some 20, none⟩, []⟩,
    ⟨⟨.mv (.slot 19), some 8, none⟩, []⟩,
    ⟨⟨.mv (.slot 20), some 9, none⟩, []⟩])
  (.region false [⟨⟨.mv (.slot 0), some 21, none⟩, []⟩,
    ⟨⟨.mv (.slot 9), some 22, none⟩, []⟩,
    ⟨⟨.call (.const (.func 34 [] [])) [(.slot 21), (.slot 22)], some 23, none⟩, []⟩])),
  []⟩
theorem xf16_ok : compFunc Tryz.prog Tryz.f16 = some xf16 := by kernel_rfl
/-- (threshing/unit.Trail).Hints -/
def xf17 : XFunc := ⟨(.seq (.region false [⟨⟨.box (.slot 0), some 1, none⟩, []⟩,
    ⟨⟨.mv (.const .nils), some 2, none⟩, []⟩])
  (.seq (.region false [⟨⟨.faddr 1 (.slot 1), some 4, none⟩, []⟩,
    ⟨⟨.load false 1 (.slot 4), some 5, none⟩, []⟩,
    ⟨⟨.call (.const (.func 35 [] [])) [(.slot 5)], some 6, none⟩, []⟩,
    ⟨⟨.mv (.slot 6), some 3, none⟩, []⟩])
  (.seq (.seq (.region false [⟨⟨.faddr 2 (.slot 1), some 7, none⟩, []⟩,
    ⟨⟨.load false 1 (.slot 7), some 8, none⟩, []⟩,
    ⟨⟨.bin .neq 2 .num (.slot 8) (.const (.int .i64 (.ofNat 0))), some 9, none⟩, []⟩])
  (.cond (.slot 9)
   (.region false [⟨⟨.mv (.slot 3), some 10, none⟩, []⟩,
     ⟨⟨.faddr 2 (.slot 1), some 11, none⟩, []⟩,
     ⟨⟨.load false 1 (.slot 11), some 12, none⟩, []⟩,
     ⟨⟨.bslice 1 [(.int .i64 (.ofNat 0))] [(0, 1, (.slot 12))] 1, some 13, none⟩, []⟩,
     ⟨⟨.append 1 8 (.slot 10) (.slot 13), some 14, none⟩, []⟩,
     ⟨⟨.mv (.slot 14), some 3, none⟩, []⟩])
   .skip))
  (.seq (.region false [⟨⟨.mv (.slot 3), some 15, none⟩, []⟩,
    ⟨⟨.mv (.slot 15), some 2, none⟩, []⟩])
  .ret)))),
  [.tmp 2]⟩
theorem xf17_ok : compFunc Tryz.prog Tryz.f17 = some xf17 := by kernel_rfl
/-- threshing/probe.set -/
def xf18 : XFunc := ⟨(.seq (.region false [⟨⟨.mv (.const .nilm), some 2, none⟩, []⟩])
  (.seq (.region false [⟨⟨.mkmap .i32, some 6, none⟩, []⟩,
    ⟨⟨.mv (.slot 6), some 3, none⟩, []⟩])
  (.seq (.seq (.region false [⟨⟨.mv (.slot 0), some 7, none⟩, []⟩,
    ⟨⟨.len .slice (.slot 7), some 8, none⟩, []⟩,
    ⟨⟨.mv (.const (.int .i64 (.ofNat 0))), some 9, none⟩, []⟩])
  (.block 0 (.loop (.seq (.region false [⟨⟨.bin .lss 3 .num (.slot 9) (.slot 8), some 10, none⟩, []⟩])
   (.seq (.cond (.slot 10)
    .skip
    (.exit 0))
   (.seq (.block 1 (.seq (.region false [⟨⟨.iaddr 1 (.slot 7) (.slot 9), some 11, none⟩, []⟩,
     ⟨⟨.load false 1 (.slot 11), some 12, none⟩, []⟩,
     ⟨⟨.mv (.slot 12), some 5, none⟩, []⟩])
   (.region false [⟨⟨.mv (.slot 3), some 13, none⟩, []⟩,
     ⟨⟨.mv (.slot 5), some 14, none⟩, []⟩,
     ⟨⟨.mapup .i32 (.slot 13) (.slot 14) (.const (.bool true)), none, none⟩, []⟩])))
   (.region false [⟨⟨.bin .add 3 .num (.slot 9) (.const (.int .i64 (.ofNat 1))), some 15, none⟩, []⟩,
     ⟨⟨.mv (.slot 15), some 9, none⟩, []⟩])))))))
  (.seq (.region false [⟨⟨.mv (.slot 3), some 16, none⟩, []⟩,
    ⟨⟨.mv (.slot 16), some 2, none⟩, []⟩])
  .ret)))),
  [.tmp 2]⟩
theorem xf18_ok : compFunc Tryz.prog Tryz.f18 = some xf18 := by kernel_rfl
/-- (*threshing/probe.prober).try -/
def xf19 : XFunc := ⟨(.seq (.region false [⟨⟨.box (.slot 0), some 2, none⟩, []⟩])
  (.seq (.region false [⟨⟨.mkfunc 36 [] [(.slot 2)], some 10, none⟩, []⟩,
    ⟨⟨.mv (.slot 10), some 4, none⟩, []⟩])
  (.seq (.region false [⟨⟨.mv (.slot 4), some 12, none⟩, []⟩,
    ⟨⟨.mv (.slot 1), some 13, none⟩, []⟩,
    ⟨⟨.call (.slot 12) [(.slot 13)], some 14, none⟩, []⟩,
    ⟨⟨.mv (.slot 14), some 11, none⟩, []⟩,
    ⟨⟨.extract (.slot 11) 0, some 15, none⟩, []⟩,
    ⟨⟨.extract (.slot 11) 1, some 16, none⟩, []⟩,
    ⟨⟨.alloc [(.int .i32 (.ofNat 0)), .nils, .nils, (.int .i64 (.ofNat 0)), .nilm], some 5, none⟩, []⟩,
    ⟨⟨.store 5 (.slot 5) (.slot 15), none, none⟩, []⟩,
    ⟨⟨.mv (.slot 16), some 6, none⟩, []⟩])
  (.seq (.seq (.region false [⟨⟨.mv (.slot 6), some 17, none⟩, []⟩,
    ⟨⟨.un .not (.slot 17), some 18, none⟩, []⟩])
  (.cond (.slot 18)
   .ret
   .skip))
  (.seq (.region false [⟨⟨.mv (.slot 4), some 20, none⟩, []⟩,
    ⟨⟨.mv (.slot 1), some 21, none⟩, []⟩,
    ⟨⟨.un .neg (.slot 21), some 22, none⟩, []⟩,
    ⟨⟨.call (.slot 20) [(.slot 22)], some 23, none⟩, []⟩,
    ⟨⟨.mv (.slot 23), some 19, none⟩, []⟩,
    ⟨⟨.extract (.slot 19) 0, some 24, none⟩, []⟩,
    ⟨⟨.extract (.slot 19) 1, some 25, none⟩, []⟩,
    ⟨⟨.alloc [(.int .i32 (.ofNat 0)), .nils, .nils, (.int .i64 (.ofNat 0)), .nilm], some 7, none⟩, []⟩,
    ⟨⟨.store 5 (.slot 7) (.slot 24), none, none⟩, []⟩,
    ⟨⟨.mv (.slot 25), some 6, none⟩, []⟩])
  (.seq (.seq (.region false [⟨⟨.mv (.slot 6), some 26, none⟩, []⟩,
    ⟨⟨.un .not (.slot 26), some 27, none⟩, []⟩])
  (.cond (.slot 27)
   .ret
   .skip))
  (.seq (.seq (.region false [⟨⟨.faddr 1 (.slot 5), some 28, none⟩, []⟩,
    ⟨⟨.faddr 0 (.slot 28), some 29, none⟩, []⟩,
    ⟨⟨.load false 1 (.slot 29), some 30, none⟩, []⟩,
    ⟨⟨.slc 1 (.slot 30) (some (.const (.int .i64 (.ofNat 1)))) none none, some 31, none⟩, []⟩,
    ⟨⟨.len .slice (.slot 31), some 32, none⟩, []⟩,
    ⟨⟨.mv (.const (.int .i64 (.ofNat 0))), some 33, none⟩, []⟩])
  (.block 0 (.loop (.seq (.region false [⟨⟨.bin .lss 3 .num (.slot 33) (.slot 32), some 34, none⟩, []⟩])
   (.seq (.cond (.slot 34)
    .skip
    (.exit 0))
   (.seq (.block 1 (.seq (.region false [⟨⟨.iaddr 1 (.slot 31) (.slot 33), some 35, none⟩, []⟩,
     ⟨⟨.load false 1 (.slot 35), some 36, none⟩, []⟩,
     ⟨⟨.mv (.slot 36), some 9, none⟩, []⟩])
   (.seq (.region false [⟨⟨.load false 1 (.slot 2), some 37, none⟩, []⟩,
     ⟨⟨.call (.const (.func 14 [] [])) [(.slot 37)], some 38, none⟩, []⟩,
     ⟨⟨.un .not (.slot 38), some 39, none⟩, []⟩,
     ⟨⟨.mv (.slot 39), some 40, none⟩, []⟩,
     ⟨⟨.load false 1 (.slot 2), some 41, some (40, true)⟩, []⟩,
     ⟨⟨.nilCheck (.slot 41), some 42, some (40, true)⟩, []⟩,
     ⟨⟨.faddr 4 (.slot 42), some 43, some (40, true)⟩, []⟩,
     ⟨⟨.load false 1 (.slot 43), some 44, some (40, true)⟩, []⟩,
     ⟨⟨.mv (.slot 9), some 45, some (40, true)⟩, []⟩,
     ⟨⟨.lookup .i32 (.bool false) (.slot 44) (.slot 45) false, some 46, some (40, true)⟩, []⟩,
     ⟨⟨.un .not (.slot 46), some 47, some (40, true)⟩, []⟩,
     ⟨⟨.pick (.slot 40) (.slot 47) (.const (.bool false)), some 48, none⟩, []⟩,
     ⟨⟨.mv (.slot 48), some 49, none⟩, []⟩,
     ⟨⟨.faddr 4 (.slot 7), some 50, some (49, true)⟩, []⟩,
     ⟨⟨.load false 1 (.slot 50), some 51, some (49, true)⟩, []⟩,
     ⟨⟨.mv (.slot 9), some 52, some (49, true)⟩, []⟩,
     ⟨⟨.lookup .i32 (.bool false) (.slot 51) (.slot 52) false, some 53, some (49, true)⟩, []⟩,
     ⟨⟨.pick (.slot 49) (.slot 53) (.const (.bool false)), some 54, none⟩, []⟩])
   (.cond (.slot 54)
    (.region true [⟨⟨.load false 1 (.slot 2), some 55, none⟩, []⟩,
      ⟨⟨.load false 1 (.slot 2), some 56, none⟩, []⟩,
      ⟨⟨.load true 5 (.slot 5), some 57, none⟩, []⟩,
      ⟨⟨.load true 5 (.slot 7), some 58, none⟩, []⟩,
      ⟨⟨.mv (.slot 9), some 59, none⟩, []⟩,
      ⟨⟨.call (.const (.func 37 [] [])) [(.slot 56), (.slot 57), (.slot 58), (.slot 59)], some 60, none⟩, [⟨.load false 1 (.slot 2), some 55, none⟩]⟩,
      ⟨⟨.call (.const (.func 34 [] [])) [(.slot 55), (.slot 60)], some 61, none⟩, []⟩])
    .skip))))
   (.region false [⟨⟨.bin .add 3 .num (.slot 33) (.const (.int .i64 (.ofNat 1))), some 62, none⟩, []⟩,
     ⟨⟨.mv (.slot 62), some 33, none⟩, []⟩])))))))
  (.seq (.region false [⟨⟨.load false 1 (.slot 2), some 63, none⟩, []⟩,
    ⟨⟨.load true 5 (.slot 5), some 64, none⟩, []⟩,
    ⟨⟨.load true 5 (.slot 7), some 65, none⟩, []⟩,
    ⟨⟨.call (.const (.func 38 [] [])) [(.slot 63), (.slot 64), (.slot 65)], some 66, none⟩, []⟩])
  (.region false [⟨⟨.load false 1 (.slot 2), some 67, none⟩, []⟩,
    ⟨⟨.load true 5 (.slot 7), some 68, none⟩, []⟩,
    ⟨⟨.load true 5 (.slot 5), some 69, none⟩, []⟩,
    ⟨⟨.call (.const (.func 38 [] [])) [(.slot 67), (.slot 68), (.slot 69)], some 70, none⟩, []⟩]))))))))),
  []⟩
theorem xf19_ok : compFunc Tryz.prog Tryz.f19 = some xf19 := by kernel_rfl
/-- threshing/base.entry -/
def xf20 : XFunc := ⟨(.seq (.region false [⟨⟨.box (.slot 0), some 1, none⟩, []⟩,
    ⟨⟨.alloc [(.int .i64 (.ofNat 0)), .nils, (.bool false)], some 2, none⟩, []⟩])
  (.seq (.region false [⟨⟨.faddr 1 (.slot 1), some 3, none⟩, []⟩,
    ⟨⟨.load false 1 (.slot 3), some 4, none⟩, []⟩,
    ⟨⟨.call (.const (.func 39 [] [])) [(.slot 4)], some 5, none⟩, []⟩,
    ⟨⟨.faddr 1 (.slot 1), some 6, none⟩, []⟩,
    ⟨⟨.store 1 (.slot 6) (.slot 5), none, none⟩, []⟩])
  (.seq (.region false [⟨⟨.load true 3 (.slot 1), some 7, none⟩, []⟩,
    ⟨⟨.store 3 (.slot 2) (.slot 7), none, none⟩, []⟩])
  .ret))),
  [.cell 2 true 3]⟩
theorem xf20_ok : compFunc Tryz.prog Tryz.f20 = some xf20 := by kernel_rfl
end Go.Proofs.YtfcafnbpkapikaaGreat

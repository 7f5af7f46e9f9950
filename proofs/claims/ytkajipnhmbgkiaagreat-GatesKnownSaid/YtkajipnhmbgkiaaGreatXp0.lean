/- The functions of the program in X's code, printed by a program of ours; each is what the program's own is turned to. -/
import Derived.Test.YtkajipnhmbgkiaaGreatProg
import Derived.Test.YtkajipnhmbgkiaaGreatXc
import Derived.KernelRfl
namespace Go.Proofs.YtkajipnhmbgkiaaGreat
open Go.Xr
/-- gosem.cut.init -/
def xf2 : XFunc := ⟨(.region false [⟨⟨.call (.const (.func 1 [] [])) [], some 0, none⟩, []⟩]),
  []⟩
theorem xf2_ok : compFunc Tryz.prog Tryz.f2 = some xf2 := by kernel_rfl
/-- threshing/threshinglaw26.GatesKnown -/
def xf3 : XFunc := ⟨(.seq (.region false [⟨⟨.mv (.const (.bool false)), some 0, none⟩, []⟩])
  (.seq (.region false [⟨⟨.bslice 1 [(.int .i32 (.ofNat 0))] [(0, 1, (.const (.int .i32 (.ofNat 2))))] 1, some 11, none⟩, []⟩,
    ⟨⟨.bslice 1 [(.int .i64 (.ofNat 0)), (.int .i64 (.ofNat 0))] [(0, 1, (.const (.int .i64 (.ofNat 1)))), (1, 1, (.const (.int .i64 (.ofNat 2))))] 2, some 12, none⟩, []⟩,
    ⟨⟨.bslice 1 [(.int .i32 (.ofNat 0)), (.int .i32 (.ofNat 0))] [(0, 1, (.const (.int .i32 (.negSucc 0)))), (1, 1, (.const (.int .i32 (.ofNat 2))))] 2, some 13, none⟩, []⟩,
    ⟨⟨.bslice 1 [(.int .i32 (.ofNat 0)), (.int .i32 (.ofNat 0))] [(0, 1, (.const (.int .i32 (.ofNat 1)))), (1, 1, (.const (.int .i32 (.negSucc 1))))] 2, some 14, none⟩, []⟩,
    ⟨⟨.bslice 1 [.nils, .nils] [(0, 1, (.slot 13)), (1, 1, (.slot 14))] 2, some 15, none⟩, []⟩,
    ⟨⟨.call (.const (.func 4 [] [])) [(.const (.int .u8 (.ofNat 1))), (.const (.int .i32 (.ofNat 1))), (.slot 11), (.slot 12), (.slot 15)], some 16, none⟩, []⟩,
    ⟨⟨.mv (.slot 16), some 17, none⟩, []⟩,
    ⟨⟨.bslice 1 [(.int .i32 (.ofNat 0)), (.int .i32 (.ofNat 0))] [(0, 1, (.const (.int .i32 (.negSucc 1)))), (1, 1, (.const (.int .i32 (.negSucc 2))))] 2, some 18, some (17, true)⟩, []⟩,
    ⟨⟨.bslice 1 [(.int .i64 (.ofNat 0)), (.int .i64 (.ofNat 0)), (.int .i64 (.ofNat 0))] [(0, 1, (.const (.int .i64 (.ofNat 1)))), (1, 1, (.const (.int .i64 (.ofNat 2)))), (2, 1, (.const (.int .i64 (.ofNat 3))))] 3, some 19, some (17, true)⟩, []⟩,
    ⟨⟨.bslice 1 [(.int .i32 (.ofNat 0)), (.int .i32 (.ofNat 0)), (.int .i32 (.ofNat 0))] [(0, 1, (.const (.int .i32 (.negSucc 0)))), (1, 1, (.const (.int .i32 (.ofNat 2)))), (2, 1, (.const (.int .i32 (.ofNat 3))))] 3, some 20, some (17, true)⟩, []⟩,
    ⟨⟨.bslice 1 [(.int .i32 (.ofNat 0)), (.int .i32 (.ofNat 0))] [(0, 1, (.const (.int .i32 (.ofNat 1)))), (1, 1, (.const (.int .i32 (.negSucc 1))))] 2, some 21, some (17, true)⟩, []⟩,
    ⟨⟨.bslice 1 [(.int .i32 (.ofNat 0)), (.int .i32 (.ofNat 0))] [(0, 1, (.const (.int .i32 (.ofNat 1)))), (1, 1, (.const (.int .i32 (.negSucc 2))))] 2, some 22, some (17, true)⟩, []⟩,
    ⟨⟨.bslice 1 [.nils, .nils, .nils] [(0, 1, (.slot 20)), (1, 1, (.slot 21)), (2, 1, (.slot 22))] 3, some 23, some (17, true)⟩, []⟩,
    ⟨⟨.call (.const (.func 4 [] [])) [(.const (.int .u8 (.ofNat 2))), (.const (.int .i32 (.negSucc 0))), (.slot 18), (.slot 19), (.slot 23)], some 24, some (17, true)⟩, []⟩,
    ⟨⟨.pick (.slot 17) (.slot 24) (.const (.bool false)), some 25, none⟩, []⟩,
    ⟨⟨.mv (.slot 25), some 26, none⟩, []⟩,
    ⟨⟨.bslice 1 [(.int .i32 (.ofNat 0)), (.int .i32 (.ofNat 0))] [(0, 1, (.const (.int .i32 (.ofNat 2)))), (1, 1, (.const (.int .i32 (.ofNat 3))))] 2, some 27, some (26, true)⟩, []⟩,
    ⟨⟨.bslice 1 [(.int .i64 (.ofNat 0)), (.int .i64 (.ofNat 0)), (.int .i64 (.ofNat 0)), (.int .i64 (.ofNat 0))] [(0, 1, (.const (.int .i64 (.ofNat 1)))), (1, 1, (.const (.int .i64 (.ofNat 2)))), (2, 1, (.const (.int .i64 (.ofNat 3)))), (3, 1, (.const (.int .i64 (.ofNat 4))))] 4, some 28, some (26, true)⟩, []⟩,
    ⟨⟨.bslice 1 [(.int .i32 (.ofNat 0)), (.int .i32 (.ofNat 0)), (.int .i32 (.ofNat 0))] [(0, 1, (.const (.int .i32 (.negSucc 0)))), (1, 1, (.const (.int .i32 (.ofNat 2)))), (2, 1, (.const (.int .i32 (.ofNat 3))))] 3, some 29, some (26, true)⟩, []⟩,
    ⟨⟨.bslice 1 [(.int .i32 (.ofNat 0)), (.int .i32 (.ofNat 0)), (.int .i32 (.ofNat 0))] [(0, 1, (.const (.int .i32 (.negSucc 0)))), (1, 1, (.const (.int .i32 (.negSucc 1)))), (2, 1, (.const (.int .i32 (.negSucc 2))))] 3, some 30, some (26, true)⟩, []⟩,
    ⟨⟨.bslice 1 [(.int .i32 (.ofNat 0)), (.int .i32 (.ofNat 0)), (.int .i32 (.ofNat 0))] [(0, 1, (.const (.int .i32 (.ofNat 1)))), (1, 1, (.const (.int .i32 (.negSucc 1)))), (2, 1, (.const (.int .i32 (.ofNat 3))))] 3, some 31, some (26, true)⟩, []⟩,
    ⟨⟨.bslice 1 [(.int .i32 (.ofNat 0)), (.int .i32 (.ofNat 0)), (.int .i32 (.ofNat 0))] [(0, 1, (.const (.int .i32 (.ofNat 1)))), (1, 1, (.const (.int .i32 (.ofNat 2)))), (2, 1, (.const (.int .i32 (.negSucc 2))))] 3, some 32, some (26, true)⟩, []⟩,
    ⟨⟨.bslice 1 [.nils, .nils, .nils, .nils] [(0, 1, (.slot 29)), (1, 1, (.slot 30)), (2, 1, (.slot 31)), (3, 1, (.slot 32))] 4, some 33, some (26, true)⟩, []⟩,
    ⟨⟨.call (.const (.func 4 [] [])) [(.const (.int .u8 (.ofNat 3))), (.const (.int .i32 (.ofNat 1))), (.slot 27), (.slot 28), (.slot 33)], some 34, some (26, true)⟩, []⟩,
    ⟨⟨.pick (.slot 26) (.slot 34) (.const (.bool false)), some 35, none⟩, []⟩,
    ⟨⟨.mv (.slot 35), some 36, none⟩, []⟩,
    ⟨⟨.bslice 1 [(.int .i32 (.ofNat 0)), (.int .i32 (.ofNat 0)), (.int .i32 (.ofNat 0))] [(0, 1, (.const (.int .i32 (.ofNat 2)))), (1, 1, (.const (.int .i32 (.ofNat 3)))), (2, 1, (.const (.int .i32 (.ofNat 4))))] 3, some 37, some (36, true)⟩, []⟩,
    ⟨⟨.bslice 1 [(.int .i64 (.ofNat 0)), (.int .i64 (.ofNat 0)), (.int .i64 (.ofNat 0)), (.int .i64 (.ofNat 0))] [(0, 1, (.const (.int .i64 (.ofNat 1)))), (1, 1, (.const (.int .i64 (.ofNat 2)))), (2, 1, (.const (.int .i64 (.ofNat 3)))), (3, 1, (.const (.int .i64 (.ofNat 4))))] 4, some 38, some (36, true)⟩, []⟩,
    ⟨⟨.bslice 1 [(.int .i32 (.ofNat 0)), (.int .i32 (.ofNat 0)), (.int .i32 (.ofNat 0))] [(0, 1, (.const (.int .i32 (.negSucc 0)))), (1, 1, (.const (.int .i32 (.negSucc 1)))), (2, 1, (.const (.int .i32 (.ofNat 3))))] 3, some 39, some (36, true)⟩, []⟩,
    ⟨⟨.bslice 1 [(.int .i32 (.ofNat 0)), (.int .i32 (.ofNat 0)), (.int .i32 (.ofNat 0))] [(0, 1, (.const (.int .i32 (.negSucc 0)))), (1, 1, (.const (.int .i32 (.ofNat 2)))), (2, 1, (.const (.int .i32 (.ofNat 4))))] 3, some 40, some (36, true)⟩, []⟩,
    ⟨⟨.bslice 1 [(.int .i32 (.ofNat 0)), (.int .i32 (.ofNat 0)), (.int .i32 (.ofNat 0))] [(0, 1, (.const (.int .i32 (.ofNat 1)))), (1, 1, (.const (.int .i32 (.negSucc 1)))), (2, 1, (.const (.int .i32 (.negSucc 2))))] 3, some 41, some (36, true)⟩, []⟩,
    ⟨⟨.bslice 1 [(.int .i32 (.ofNat 0)), (.int .i32 (.ofNat 0)), (.int .i32 (.ofNat 0))] [(0, 1, (.const (.int .i32 (.ofNat 1)))), (1, 1, (.const (.int .i32 (.ofNat 2)))), (2, 1, (.const (.int .i32 (.negSucc 3))))] 3, some 42, some (36, true)⟩, []⟩,
    ⟨⟨.bslice 1 [.nils, .nils, .nils, .nils] [(0, 1, (.slot 39)), (1, 1, (.slot 40)), (2, 1, (.slot 41)), (3, 1, (.slot 42))] 4, some 43, some (36, true)⟩, []⟩,
    ⟨⟨.call (.const (.func 4 [] [])) [(.const (.int .u8 (.ofNat 4))), (.const (.int .i32 (.ofNat 1))), (.slot 37), (.slot 38), (.slot 43)], some 44, some (36, true)⟩, []⟩,
    ⟨⟨.pick (.slot 36) (.slot 44) (.const (.bool false)), some 45, none⟩, []⟩,
    ⟨⟨.mv (.slot 45), some 1, none⟩, []⟩])
  (.seq (.region false [⟨⟨.bslice 1 [(.int .i32 (.ofNat 0)), (.int .i32 (.ofNat 0)), (.int .i32 (.ofNat 0))] [(0, 1, (.const (.int .i32 (.ofNat 1)))), (1, 1, (.const (.int .i32 (.negSucc 1)))), (2, 1, (.const (.int .i32 (.negSucc 2))))] 3, some 46, none⟩, []⟩,
    ⟨⟨.bslice 1 [(.int .i32 (.ofNat 0)), (.int .i32 (.ofNat 0)), (.int .i32 (.ofNat 0))] [(0, 1, (.const (.int .i32 (.negSucc 2)))), (1, 1, (.const (.int .i32 (.ofNat 1)))), (2, 1, (.const (.int .i32 (.negSucc 1))))] 3, some 47, none⟩, []⟩,
    ⟨⟨.bslice 1 [(.int .i32 (.ofNat 0)), (.int .i32 (.ofNat 0))] [(0, 1, (.const (.int .i32 (.negSucc 0)))), (1, 1, (.const (.int .i32 (.ofNat 2))))] 2, some 48, none⟩, []⟩,
    ⟨⟨.bslice 1 [(.int .i32 (.ofNat 0)), (.int .i32 (.ofNat 0))] [(0, 1, (.const (.int .i32 (.negSucc 0)))), (1, 1, (.const (.int .i32 (.ofNat 3))))] 2, some 49, none⟩, []⟩,
    ⟨⟨.bslice 1 [(.int .i32 (.ofNat 0)), (.int .i32 (.ofNat 0))] [(0, 1, (.const (.int .i32 (.ofNat 3)))), (1, 1, (.const (.int .i32 (.negSucc 0))))] 2, some 50, none⟩, []⟩,
    ⟨⟨.bslice 1 [.nils, .nils, .nils, .nils, .nils] [(0, 1, (.slot 46)), (1, 1, (.slot 47)), (2, 1, (.slot 48)), (3, 1, (.slot 49)), (4, 1, (.slot 50))] 5, some 51, none⟩, []⟩,
    ⟨⟨.call (.const (.func 5 [] [])) [(.slot 51)], some 52, none⟩, []⟩,
    ⟨⟨.mv (.slot 52), some 2, none⟩, []⟩])
  (.seq (.region false [⟨⟨.mv (.slot 2), some 53, none⟩, []⟩,
    ⟨⟨.call (.const (.func 6 [] [])) [(.slot 53), (.const (.int .i64 (.ofNat 1)))], some 54, none⟩, []⟩,
    ⟨⟨.mv (.slot 54), some 3, none⟩, []⟩])
  (.seq (.region false [⟨⟨.mv (.slot 3), some 55, none⟩, []⟩,
    ⟨⟨.len .slice (.slot 55), some 56, none⟩, []⟩,
    ⟨⟨.bin .eql 3 .num (.slot 56) (.const (.int .i64 (.ofNat 2))), some 57, none⟩, []⟩,
    ⟨⟨.mv (.slot 57), some 58, none⟩, []⟩,
    ⟨⟨.mv (.slot 3), some 59, some (58, true)⟩, []⟩,
    ⟨⟨.iaddr 4 (.slot 59) (.const (.int .i64 (.ofNat 0))), some 60, some (58, true)⟩, []⟩,
    ⟨⟨.faddr 3 (.slot 60), some 61, some (58, true)⟩, []⟩,
    ⟨⟨.load false 1 (.slot 61), some 62, some (58, true)⟩, []⟩,
    ⟨⟨.bslice 1 [(.int .i64 (.ofNat 0)), (.int .i64 (.ofNat 0)), (.int .i64 (.ofNat 0))] [(0, 1, (.const (.int .i64 (.ofNat 1)))), (1, 1, (.const (.int .i64 (.ofNat 3)))), (2, 1, (.const (.int .i64 (.ofNat 4))))] 3, some 63, some (58, true)⟩, []⟩,
    ⟨⟨.call (.const (.func 7 [] [])) [(.slot 62), (.slot 63)], some 64, some (58, true)⟩, []⟩,
    ⟨⟨.pick (.slot 58) (.slot 64) (.const (.bool false)), some 65, none⟩, []⟩,
    ⟨⟨.mv (.slot 65), some 66, none⟩, []⟩,
    ⟨⟨.mv (.slot 3), some 67, some (66, true)⟩, []⟩,
    ⟨⟨.iaddr 4 (.slot 67) (.const (.int .i64 (.ofNat 1))), some 68, some (66, true)⟩, []⟩,
    ⟨⟨.faddr 3 (.slot 68), some 69, some (66, true)⟩, []⟩,
    ⟨⟨.load false 1 (.slot 69), some 70, some (66, true)⟩, []⟩,
    ⟨⟨.bslice 1 [(.int .i64 (.ofNat 0)), (.int .i64 (.ofNat 0)), (.int .i64 (.ofNat 0))] [(0, 1, (.const (.int .i64 (.ofNat 2)))), (1, 1, (.const (.int .i64 (.ofNat 3)))), (2, 1, (.const (.int .i64 (.ofNat 4))))] 3, some 71, some (66, true)⟩, []⟩,
    ⟨⟨.call (.const (.func 7 [] [])) [(.slot 70), (.slot 71)], some 72, some (66, true)⟩, []⟩,
    ⟨⟨.pick (.slot 66) (.slot 72) (.const (.bool false)), some 73, none⟩, []⟩,
    ⟨⟨.mv (.slot 73), some 4, none⟩, []⟩])
  (.seq (.region false [⟨⟨.bslice 1 [(.int .i32 (.ofNat 0)), (.int .i32 (.ofNat 0))] [(0, 1, (.const (.int .i32 (.ofNat 1)))), (1, 1, (.const (.int .i32 (.negSucc 1))))] 2, some 74, none⟩, []⟩,
    ⟨⟨.bslice 1 [(.int .i32 (.ofNat 0)), (.int .i32 (.ofNat 0))] [(0, 1, (.const (.int .i32 (.negSucc 0)))), (1, 1, (.const (.int .i32 (.ofNat 4))))] 2, some 75, none⟩, []⟩,
    ⟨⟨.bslice 1 [(.int .i32 (.ofNat 0)), (.int .i32 (.ofNat 0))] [(0, 1, (.const (.int .i32 (.negSucc 3)))), (1, 1, (.const (.int .i32 (.ofNat 2))))] 2, some 76, none⟩, []⟩,
    ⟨⟨.bslice 1 [.nils, .nils, .nils] [(0, 1, (.slot 74)), (1, 1, (.slot 75)), (2, 1, (.slot 76))] 3, some 77, none⟩, []⟩,
    ⟨⟨.call (.const (.func 5 [] [])) [(.slot 77)], some 78, none⟩, []⟩,
    ⟨⟨.mv (.slot 78), some 5, none⟩, []⟩])
  (.seq (.region false [⟨⟨.mv (.slot 5), some 80, none⟩, []⟩,
    ⟨⟨.bslice 1 [(.int .i32 (.ofNat 0)), (.int .i32 (.ofNat 0))] [(0, 1, (.const (.int .i32 (.negSucc 0)))), (1, 1, (.const (.int .i32 (.ofNat 2))))] 2, some 81, none⟩, []⟩,
    ⟨⟨.bslice 1 [(.int .i64 (.ofNat 0)), (.int .i64 (.ofNat 0))] [(0, 1, (.const (.int .i64 (.ofNat 2)))), (1, 1, (.const (.int .i64 (.ofNat 3))))] 2, some 82, none⟩, []⟩,
    ⟨⟨.call (.const (.func 8 [] [])) [(.slot 80), (.slot 81), (.slot 82), (.const (.bool true))], some 83, none⟩, []⟩,
    ⟨⟨.mv (.slot 83), some 79, none⟩, []⟩,
    ⟨⟨.extract (.slot 79) 0, some 84, none⟩, []⟩,
    ⟨⟨.extract (.slot 79) 1, some 85, none⟩, []⟩,
    ⟨⟨.mv (.slot 84), some 6, none⟩, []⟩,
    ⟨⟨.mv (.slot 85), some 7, none⟩, []⟩])
  (.seq (.region false [⟨⟨.mv (.slot 7), some 86, none⟩, []⟩,
    ⟨⟨.bin .eql 34 .num (.slot 86) (.const (.int .i64 (.ofNat 0))), some 87, none⟩, []⟩,
    ⟨⟨.mv (.slot 87), some 88, none⟩, []⟩,
    ⟨⟨.mv (.slot 5), some 89, some (88, true)⟩, []⟩,
    ⟨⟨.call (.const (.func 6 [] [])) [(.slot 89), (.const (.int .i64 (.ofNat 1)))], some 90, some (88, true)⟩, []⟩,
    ⟨⟨.len .slice (.slot 90), some 91, some (88, true)⟩, []⟩,
    ⟨⟨.bin .eql 3 .num (.slot 91) (.const (.int .i64 (.ofNat 0))), some 92, some (88, true)⟩, []⟩,
    ⟨⟨.pick (.slot 88) (.slot 92) (.const (.bool false)), some 93, none⟩, []⟩,
    ⟨⟨.mv (.slot 93), some 94, none⟩, []⟩,
    ⟨⟨.mv (.slot 5), some 95, some (94, true)⟩, []⟩,
    ⟨⟨.call (.const (.func 6 [] [])) [(.slot 95), (.const (.int .i64 (.ofNat 0)))], some 96, some (94, true)⟩, []⟩,
    ⟨⟨.len .slice (.slot 96), some 97, some (94, true)⟩, []⟩,
    ⟨⟨.bin .eql 3 .num (.slot 97) (.const (.int .i64 (.ofNat 0))), some 98, some (94, true)⟩, []⟩,
    ⟨⟨.pick (.slot 94) (.slot 98) (.const (.bool false)), some 99, none⟩, []⟩,
    ⟨⟨.mv (.slot 99), some 100, none⟩, []⟩,
    ⟨⟨.mv (.slot 5), some 101, some (100, true)⟩, []⟩,
    ⟨⟨.call (.const (.func 6 [] [])) [(.slot 101), (.const (.int .i64 (.ofNat 5)))], some 102, some (100, true)⟩, []⟩,
    ⟨⟨.len .slice (.slot 102), some 103, some (100, true)⟩, []⟩,
    ⟨⟨.bin .eql 3 .num (.slot 103) (.const (.int .i64 (.ofNat 0))), some 104, some (100, true)⟩, []⟩,
    ⟨⟨.pick (.slot 100) (.slot 104) (.const (.bool false)), some 105, none⟩, []⟩,
    ⟨⟨.mv (.slot 105), some 106, none⟩, []⟩,
    ⟨⟨.call (.const (.func 6 [] [])) [(.const .nilp), (.const (.int .i64 (.ofNat 1)))], some 107, some (106, true)⟩, []⟩,
    ⟨⟨.len .slice (.slot 107), some 108, some (106, true)⟩, []⟩,
    ⟨⟨.bin .eql 3 .num (.slot 108) (.const (.int .i64 (.ofNat 0))), some 109, some (106, true)⟩, []⟩,
    ⟨⟨.pick (.slot 106) (.slot 109) (.const (.bool false)), some 110, none⟩, []⟩,
    ⟨⟨.mv (.slot 110), some 8, none⟩, []⟩])
  (.seq (.region false [⟨⟨.bslice 1 [(.bool false), (.bool false)] [(0, 1, (.const (.bool true))), (1, 1, (.const (.bool false)))] 2, some 111, none⟩, []⟩,
    ⟨⟨.mv (.slot 111), some 9, none⟩, []⟩])
  (.seq (.region false [⟨⟨.bslice 1 [(.int .i32 (.ofNat 0))] [(0, 1, (.const (.int .i32 (.ofNat 1))))] 1, some 112, none⟩, []⟩,
    ⟨⟨.build [(.int .u8 (.ofNat 0)), (.int .i32 (.ofNat 0)), .nils, .nils] [(0, 1, (.const (.int .u8 (.ofNat 1)))), (2, 1, (.slot 112))], some 113, none⟩, []⟩,
    ⟨⟨.mv (.slot 9), some 114, none⟩, []⟩,
    ⟨⟨.call (.const (.func 9 [] [])) [(.slot 113), (.slot 114)], some 115, none⟩, []⟩,
    ⟨⟨.mv (.slot 115), some 116, none⟩, []⟩,
    ⟨⟨.build [(.int .u8 (.ofNat 0)), (.int .i32 (.ofNat 0)), .nils, .nils] [(0, 1, (.const (.int .u8 (.ofNat 1))))], some 117, some (116, true)⟩, []⟩,
    ⟨⟨.mv (.slot 9), some 118, some (116, true)⟩, []⟩,
    ⟨⟨.call (.const (.func 9 [] [])) [(.slot 117), (.slot 118)], some 119, some (116, true)⟩, []⟩,
    ⟨⟨.un .not (.slot 119), some 120, some (116, true)⟩, []⟩,
    ⟨⟨.pick (.slot 116) (.slot 120) (.const (.bool false)), some 121, none⟩, []⟩,
    ⟨⟨.mv (.slot 121), some 122, none⟩, []⟩,
    ⟨⟨.bslice 1 [(.int .i32 (.ofNat 0))] [(0, 1, (.const (.int .i32 (.ofNat 1))))] 1, some 123, some (122, true)⟩, []⟩,
    ⟨⟨.build [(.int .u8 (.ofNat 0)), (.int .i32 (.ofNat 0)), .nils, .nils] [(0, 1, (.const (.int .u8 (.ofNat 3)))), (2, 1, (.slot 123))], some 124, some (122, true)⟩, []⟩,
    ⟨⟨.mv (.slot 9), some 125, some (122, true)⟩, []⟩,
    ⟨⟨.call (.const (.func 9 [] [])) [(.slot 124), (.slot 125)], some 126, some (122, true)⟩, []⟩,
    ⟨⟨.un .not (.slot 126), some 127, some (122, true)⟩, []⟩,
    ⟨⟨.pick (.slot 122) (.slot 127) (.const (.bool false)), some 128, none⟩, []⟩,
    ⟨⟨.mv (.slot 128), some 129, none⟩, []⟩,
    ⟨⟨.bslice 1 [(.int .i32 (.ofNat 0)), (.int .i32 (.ofNat 0))] [(0, 1, (.const (.int .i32 (.ofNat 1)))), (1, 1, (.const (.int .i32 (.ofNat 2))))] 2, some 130, some (129, true)⟩, []⟩,
    ⟨⟨.build [(.int .u8 (.ofNat 0)), (.int .i32 (.ofNat 0)), .nils, .nils] [(0, 1, (.const (.int .u8 (.ofNat 3)))), (2, 1, (.slot 130))], some 131, some (129, true)⟩, []⟩,
    ⟨⟨.mv (.slot 9), some 132, some (129, true)⟩, []⟩,
    ⟨⟨.call (.const (.func 9 [] [])) [(.slot 131), (.slot 132)], some 133, some (129, true)⟩, []⟩,
    ⟨⟨.pick (.slot 129) (.slot 133) (.const (.bool false)), some 134, none⟩, []⟩,
    ⟨⟨.mv (.slot 134), some 135, none⟩, []⟩,
    ⟨⟨.bslice 1 [(.int .i32 (.ofNat 0)), (.int .i32 (.ofNat 0))] [(0, 1, (.const (.int .i32 (.ofNat 2)))), (1, 1, (.const (.int .i32 (.ofNat 1))))] 2, some 136, some (135, true)⟩, []⟩,
    ⟨⟨.build [(.int .u8 (.ofNat 0)), (.int .i32 (.ofNat 0)), .nils, .nils] [(0, 1, (.const (.int .u8 (.ofNat 4)))), (2, 1, (.slot 136))], some 137, some (135, true)⟩, []⟩,
    ⟨⟨.mv (.slot 9), some 138, some (135, true)⟩, []⟩,
    ⟨⟨.call (.const (.func 9 [] [])) [(.slot 137), (.slot 138)], some 139, some (135, true)⟩, []⟩,
    ⟨⟨.un .not (.slot 139), some 140, some (135, true)⟩, []⟩,
    ⟨⟨.pick (.slot 135) (.slot 140) (.const (.bool false)), some 141, none⟩, []⟩,
    ⟨⟨.mv (.slot 141), some 142, none⟩, []⟩,
    ⟨⟨.bslice 1 [(.int .i32 (.ofNat 0)), (.int .i32 (.ofNat 0)), (.int .i32 (.ofNat 0))] [(0, 1, (.const (.int .i32 (.ofNat 2)))), (1, 1, (.const (.int .i32 (.ofNat 2)))), (2, 1, (.const (.int .i32 (.negSucc 1))))] 3, some 143, some (142, true)⟩, []⟩,
    ⟨⟨.build [(.int .u8 (.ofNat 0)), (.int .i32 (.ofNat 0)), .nils, .nils] [(0, 1, (.const (.int .u8 (.ofNat 4)))), (2, 1, (.slot 143))], some 144, some (142, true)⟩, []⟩,
    ⟨⟨.mv (.slot 9), some 145, some (142, true)⟩, []⟩,
    ⟨⟨.call (.const (.func 9 [] [])) [(.slot 144), (.slot 145)], some 146, some (142, true)⟩, []⟩,
    ⟨⟨.pick (.slot 142) (.slot 146) (.const (.bool false)), some 147, none⟩, []⟩,
    ⟨⟨.mv (.slot 147), some 148, none⟩, []⟩,
    ⟨⟨.bslice 1 [(.int .i32 (.ofNat 0)), (.int .i32 (.ofNat 0))] [(0, 1, (.const (.int .i32 (.ofNat 1)))), (1, 1, (.const (.int .i32 (.negSucc 2))))] 2, some 149, some (148, true)⟩, []⟩,
    ⟨⟨.build [(.int .u8 (.ofNat 0)), (.int .i32 (.ofNat 0)), .nils, .nils] [(0, 1, (.const (.int .u8 (.ofNat 2)))), (2, 1, (.slot 149))], some 150, some (148, true)⟩, []⟩,
    ⟨⟨.mv (.slot 9), some 151, some (148, true)⟩, []⟩,
    ⟨⟨.call (.const (.func 9 [] [])) [(.slot 150), (.slot 151)], some 152, some (148, true)⟩, []⟩,
    ⟨⟨.un .not (.slot 152), some 153, some (148, true)⟩, []⟩,
    ⟨⟨.pick (.slot 148) (.slot 153) (.const (.bool false)), some 154, none⟩, []⟩,
    ⟨⟨.mv (.slot 154), some 155, none⟩, []⟩,
    ⟨⟨.bslice 1 [(.int .i32 (.ofNat 0)), (.int .i32 (.ofNat 0)), (.int .i32 (.ofNat 0))] [(0, 1, (.const (.int .i32 (.ofNat 1)))), (1, 1, (.const (.int .i32 (.ofNat 1)))), (2, 1, (.const (.int .i32 (.ofNat 1))))] 3, some 156, some (155, true)⟩, []⟩,
    ⟨⟨.build [(.int .u8 (.ofNat 0)), (.int .i32 (.ofNat 0)), .nils, .nils] [(0, 1, (.const (.int .u8 (.ofNat 5)))), (2, 1, (.slot 156))], some 157, some (155, true)⟩, []⟩,
    ⟨⟨.mv (.slot 9), some 158, some (155, true)⟩, []⟩,
    ⟨⟨.call (.const (.func 9 [] [])) [(.slot 157), (.slot 158)], some 159, some (155, true)⟩, []⟩,
    ⟨⟨.un .not (.slot 159), some 160, some (155, true)⟩, []⟩,
    ⟨⟨.pick (.slot 155) (.slot 160) (.const (.bool false)), some 161, none⟩, []⟩,
    ⟨⟨.mv (.slot 161), some 10, none⟩, []⟩])
  (.seq (.region false [⟨⟨.mv (.slot 1), some 162, none⟩, []⟩,
    ⟨⟨.mv (.slot 162), some 163, none⟩, []⟩,
    ⟨⟨.mv (.slot 4), some 164, some (163, true)⟩, []⟩,
    ⟨⟨.pick (.slot 163) (.slot 164) (.const (.bool false)), some 165, none⟩, []⟩,
    ⟨⟨.mv (.slot 165), some 166, none⟩, []⟩,
    ⟨⟨.mv (.slot 8), some 167, some (166, true)⟩, []⟩,
    ⟨⟨.pick (.slot 166) (.slot 167) (.const (.bool false)), some 168, none⟩, []⟩,
    ⟨⟨.mv (.slot 168), some 169, none⟩, []⟩,
    ⟨⟨.mv (.slot 10), some 170, some (169, true)⟩, []⟩,
    ⟨⟨.pick (.slot 169) (.slot 170) (.const (.bool false)), some 171, none⟩, []⟩,
    ⟨⟨.mv (.slot 171), some 172, none⟩, []⟩,
    ⟨⟨.call (.const (.func 10 [] [])) [], some 173, some (172, true)⟩, []⟩,
    ⟨⟨.pick (.slot 172) (.slot 173) (.const (.bool false)), some 174, none⟩, []⟩,
    ⟨⟨.mv (.slot 174), some 0, none⟩, []⟩])
  .ret))))))))))),
  [.tmp 0]⟩
theorem xf3_ok : compFunc Tryz.prog Tryz.f3 = some xf3 := by kernel_rfl
/-- threshing/threshinglaw26.is -/
def xf4 : XFunc := ⟨(.seq (.region false [⟨⟨.mv (.const (.bool false)), some 10, none⟩, []⟩])
  (.seq (.region false [⟨⟨.mv (.slot 4), some 12, none⟩, []⟩,
    ⟨⟨.call (.const (.func 5 [] [])) [(.slot 12)], some 13, none⟩, []⟩,
    ⟨⟨.call (.const (.func 6 [] [])) [(.slot 13), (.const (.int .i64 (.ofNat 1)))], some 14, none⟩, []⟩,
    ⟨⟨.mv (.slot 14), some 11, none⟩, []⟩])
  (.seq (.region false [⟨⟨.mv (.slot 11), some 15, none⟩, []⟩,
    ⟨⟨.len .slice (.slot 15), some 16, none⟩, []⟩,
    ⟨⟨.bin .eql 3 .num (.slot 16) (.const (.int .i64 (.ofNat 1))), some 17, none⟩, []⟩,
    ⟨⟨.mv (.slot 17), some 18, none⟩, []⟩,
    ⟨⟨.mv (.slot 11), some 19, some (18, true)⟩, []⟩,
    ⟨⟨.iaddr 4 (.slot 19) (.const (.int .i64 (.ofNat 0))), some 20, some (18, true)⟩, []⟩,
    ⟨⟨.faddr 0 (.slot 20), some 21, some (18, true)⟩, []⟩,
    ⟨⟨.load false 1 (.slot 21), some 22, some (18, true)⟩, []⟩,
    ⟨⟨.mv (.slot 0), some 23, some (18, true)⟩, []⟩,
    ⟨⟨.bin .eql 5 .num (.slot 22) (.slot 23), some 24, some (18, true)⟩, []⟩,
    ⟨⟨.pick (.slot 18) (.slot 24) (.const (.bool false)), some 25, none⟩, []⟩,
    ⟨⟨.mv (.slot 25), some 26, none⟩, []⟩,
    ⟨⟨.mv (.slot 11), some 27, some (26, true)⟩, []⟩,
    ⟨⟨.iaddr 4 (.slot 27) (.const (.int .i64 (.ofNat 0))), some 28, some (26, true)⟩, []⟩,
    ⟨⟨.faddr 1 (.slot 28), some 29, some (26, true)⟩, []⟩,
    ⟨⟨.load false 1 (.slot 29), some 30, some (26, true)⟩, []⟩,
    ⟨⟨.mv (.slot 1), some 31, some (26, true)⟩, []⟩,
    ⟨⟨.bin .eql 23 .num (.slot 30) (.slot 31), some 32, some (26, true)⟩, []⟩,
    ⟨⟨.pick (.slot 26) (.slot 32) (.const (.bool false)), some 33, none⟩, []⟩,
    ⟨⟨.mv (.slot 33), some 34, none⟩, []⟩,
    ⟨⟨.mv (.slot 11), some 35, some (34, true)⟩, []⟩,
    ⟨⟨.iaddr 4 (.slot 35) (.const (.int .i64 (.ofNat 0))), some 36, some (34, true)⟩, []⟩,
    ⟨⟨.faddr 2 (.slot 36), some 37, some (34, true)⟩, []⟩,
    ⟨⟨.load false 1 (.slot 37), some 38, some (34, true)⟩, []⟩,
    ⟨⟨.mv (.slot 2), some 39, some (34, true)⟩, []⟩,
    ⟨⟨.call (.const (.func 11 [] [])) [(.slot 38), (.slot 39)], some 40, some (34, true)⟩, []⟩,
    ⟨⟨.pick (.slot 34) (.slot 40) (.const (.bool false)), some 41, none⟩, []⟩,
    ⟨⟨.mv (.slot 41), some 42, none⟩, []⟩,
    ⟨⟨.mv (.slot 11), some 43, some (42, true)⟩, []⟩,
    ⟨⟨.iaddr 4 (.slot 43) (.const (.int .i64 (.ofNat 0))), some 44, some (42, true)⟩, []⟩,
    ⟨⟨.faddr 3 (.slot 44), some 45, some (42, true)⟩, []⟩,
    ⟨⟨.load false 1 (.slot 45), some 46, some (42, true)⟩, []⟩,
    ⟨⟨.mv (.slot 3), some 47, some (42, true)⟩, []⟩,
    ⟨⟨.call (.const (.func 7 [] [])) [(.slot 46), (.slot 47)], some 48, some (42, true)⟩, []⟩,
    ⟨⟨.pick (.slot 42) (.slot 48) (.const (.bool false)), some 49, none⟩, []⟩,
    ⟨⟨.mv (.slot 49), some 10, none⟩, []⟩])
  .ret))),
  [.tmp 10]⟩
theorem xf4_ok : compFunc Tryz.prog Tryz.f4 = some xf4 := by kernel_rfl
/-- threshing/threshinglaw26.began -/
def xf5 : XFunc := ⟨(.seq (.region false [⟨⟨.mv (.const .nilp), some 2, none⟩, []⟩])
  (.seq (.region false [⟨⟨.mv (.slot 0), some 6, none⟩, []⟩,
    ⟨⟨.build [(.int .i64 (.ofNat 0)), .nils] [(0, 1, (.const (.int .i64 (.ofNat 4)))), (1, 1, (.slot 6))], some 7, none⟩, []⟩,
    ⟨⟨.call (.const (.func 12 [] [])) [(.slot 7)], some 8, none⟩, []⟩,
    ⟨⟨.mv (.slot 8), some 5, none⟩, []⟩,
    ⟨⟨.extract (.slot 5) 0, some 9, none⟩, []⟩,
    ⟨⟨.extract (.slot 5) 1, some 10, none⟩, []⟩,
    ⟨⟨.mv (.slot 9), some 3, none⟩, []⟩,
    ⟨⟨.mv (.slot 10), some 4, none⟩, []⟩])
  (.seq (.region false [⟨⟨.mv (.slot 3), some 11, none⟩, []⟩,
    ⟨⟨.mv (.slot 11), some 2, none⟩, []⟩])
  .ret))),
  [.tmp 2]⟩
theorem xf5_ok : compFunc Tryz.prog Tryz.f5 = some xf5 := by kernel_rfl
/-- threshing/gates.Find -/
def xf6 : XFunc := ⟨(.seq (.region false [⟨⟨.mv (.const .nils), some 4, none⟩, []⟩])
  (.seq (.seq (.region false [⟨⟨.mv (.slot 1), some 9, none⟩, []⟩,
    ⟨⟨.bin .lss 3 .num (.slot 9) (.const (.int .i64 (.ofNat 1))), some 10, none⟩, []⟩,
    ⟨⟨.mv (.slot 10), some 11, none⟩, []⟩,
    ⟨⟨.mv (.slot 1), some 12, some (11, false)⟩, []⟩,
    ⟨⟨.mv (.slot 0), some 13, some (11, false)⟩, []⟩,
    ⟨⟨.call (.const (.func 13 [] [])) [(.slot 13)], some 14, some (11, false)⟩, []⟩,
    ⟨⟨.bin .gtr 3 .num (.slot 12) (.slot 14), some 15, some (11, false)⟩, []⟩,
    ⟨⟨.pick (.slot 11) (.const (.bool true)) (.slot 15), some 16, none⟩, []⟩])
  (.cond (.slot 16)
   (.seq (.region false [⟨⟨.mv (.const .nils), some 4, none⟩, []⟩])
   .ret)
   .skip))
  (.seq (.region false [⟨⟨.mv (.slot 0), some 17, none⟩, []⟩,
    ⟨⟨.mv (.slot 1), some 18, none⟩, []⟩,
    ⟨⟨.conv .i32 (.slot 18), some 19, none⟩, []⟩,
    ⟨⟨.call (.const (.func 14 [] [])) [(.slot 17), (.slot 19)], some 20, none⟩, []⟩,
    ⟨⟨.mv (.slot 20), some 5, none⟩, []⟩])
  (.seq (.region false [⟨⟨.mv (.const .nils), some 6, none⟩, []⟩])
  (.seq (.seq (.region false [⟨⟨.bslice 1 [.nilf, .nilf, .nilf, .nilf] [(0, 1, (.const (.func 15 [] []))), (1, 1, (.const (.func 16 [] []))), (2, 1, (.const (.func 17 [] []))), (3, 1, (.const (.func 18 [] [])))] 4, some 21, none⟩, []⟩,
    ⟨⟨.len .slice (.slot 21), some 22, none⟩, []⟩,
    ⟨⟨.mv (.const (.int .i64 (.ofNat 0))), some 23, none⟩, []⟩])
  (.block 0 (.loop (.seq (.region false [⟨⟨.bin .lss 3 .num (.slot 23) (.slot 22), some 24, none⟩, []⟩])
   (.seq (.cond (.slot 24)
    .skip
    (.exit 0))
   (.seq (.block 1 (.seq (.region false [⟨⟨.iaddr 1 (.slot 21) (.slot 23), some 25, none⟩, []⟩,
     ⟨⟨.load false 1 (.slot 25), some 26, none⟩, []⟩,
     ⟨⟨.mv (.slot 26), some 8, none⟩, []⟩])
   (.region false [⟨⟨.mv (.slot 6), some 27, none⟩, []⟩,
     ⟨⟨.mv (.slot 8), some 28, none⟩, []⟩,
     ⟨⟨.mv (.slot 5), some 29, none⟩, []⟩,
     ⟨⟨.call (.slot 28) [(.slot 29)], some 30, none⟩, []⟩,
     ⟨⟨.append 4 56 (.slot 27) (.slot 30), some 31, none⟩, []⟩,
     ⟨⟨.mv (.slot 31), some 6, none⟩, []⟩])))
   (.region false [⟨⟨.bin .add 3 .num (.slot 23) (.const (.int .i64 (.ofNat 1))), some 32, none⟩, []⟩,
     ⟨⟨.mv (.slot 32), some 23, none⟩, []⟩])))))))
  (.seq (.region false [⟨⟨.mv (.slot 6), some 33, none⟩, []⟩,
    ⟨⟨.mv (.slot 33), some 4, none⟩, []⟩])
  .ret)))))),
  [.tmp 4]⟩
theorem xf6_ok : compFunc Tryz.prog Tryz.f6 = some xf6 := by kernel_rfl
/-- threshing/threshingkit.SameIDs -/
def xf7 : XFunc := ⟨(.seq (.region false [⟨⟨.mv (.const (.bool false)), some 4, none⟩, []⟩])
  (.seq (.seq (.region false [⟨⟨.mv (.slot 0), some 6, none⟩, []⟩,
    ⟨⟨.len .slice (.slot 6), some 7, none⟩, []⟩,
    ⟨⟨.mv (.slot 1), some 8, none⟩, []⟩,
    ⟨⟨.len .slice (.slot 8), some 9, none⟩, []⟩,
    ⟨⟨.bin .neq 3 .num (.slot 7) (.slot 9), some 10, none⟩, []⟩])
  (.cond (.slot 10)
   (.seq (.region false [⟨⟨.mv (.const (.bool false)), some 4, none⟩, []⟩])
   .ret)
   .skip))
  (.seq (.seq (.region false [⟨⟨.mv (.const (.int .i64 (.ofNat 0))), some 5, none⟩, []⟩])
  (.block 0 (.loop (.seq (.seq (.region false [⟨⟨.mv (.slot 5), some 11, none⟩, []⟩,
     ⟨⟨.mv (.slot 0), some 12, none⟩, []⟩,
     ⟨⟨.len .slice (.slot 12), some 13, none⟩, []⟩,
     ⟨⟨.bin .lss 3 .num (.slot 11) (.slot 13), some 14, none⟩, []⟩])
   (.cond (.slot 14)
    .skip
    (.exit 0)))
   (.seq (.block 1 (.seq (.region true [⟨⟨.mv (.slot 0), some 17, none⟩, []⟩,
     ⟨⟨.mv (.slot 5), some 18, none⟩, []⟩,
     ⟨⟨.iaddr 1 (.slot 17) (.slot 18), some 19, none⟩, []⟩,
     ⟨⟨.load false 1 (.slot 19), some 20, none⟩, []⟩,
     ⟨⟨.mv (.slot 1), some 21, none⟩, []⟩,
     ⟨⟨.mv (.slot 5), some 22, none⟩, []⟩,
     ⟨⟨.iaddr 1 (.slot 21) (.slot 22), some 23, none⟩, []⟩,
     ⟨⟨.load false 1 (.slot 23), some 24, none⟩, []⟩,
     ⟨⟨.bin .neq 2 .num (.slot 20) (.slot 24), some 25, none⟩, []⟩])
   (.cond (.slot 25)
    (.seq (.region false [⟨⟨.mv (.const (.bool false)), some 4, none⟩, []⟩])
    .ret)
    .skip)))
   (.region false [⟨⟨.mv (.slot 5), some 15, none⟩, []⟩,
     ⟨⟨.bin .add 3 .num (.slot 15) (.const (.int .i64 (.ofNat 1))), some 16, none⟩, []⟩,
     ⟨⟨.mv (.slot 16), some 5, none⟩, []⟩]))))))
  (.seq (.region false [⟨⟨.mv (.const (.bool true)), some 4, none⟩, []⟩])
  .ret)))),
  [.tmp 4]⟩
theorem xf7_ok : compFunc Tryz.prog Tryz.f7 = some xf7 := by kernel_rfl
/-- (*threshing/base.Base).Add -/
def xf8 : XFunc := ⟨(.seq (.region false [⟨⟨.mv (.const (.int .i64 (.ofNat 0))), some 8, none⟩, []⟩,
    ⟨⟨.mv (.const (.int .i64 (.ofNat 0))), some 9, none⟩, []⟩])
  (.seq (.block 0 (.seq (.region false [⟨⟨.mv (.slot 0), some 12, none⟩, []⟩,
    ⟨⟨.bin .eql 27 .ptr (.slot 12) (.const .nilp), some 13, none⟩, []⟩,
    ⟨⟨.mv (.slot 13), some 11, none⟩, []⟩])
  (.cond (.slot 11)
   (.seq (.region false [⟨⟨.mv (.const (.int .i64 (.ofNat 0))), some 8, none⟩, []⟩,
     ⟨⟨.mv (.const (.int .i64 (.ofNat 1))), some 9, none⟩, []⟩])
   .ret)
   (.seq (.region false [⟨⟨.mv (.slot 0), some 15, none⟩, []⟩,
     ⟨⟨.call (.const (.func 19 [] [])) [(.slot 15)], some 16, none⟩, []⟩,
     ⟨⟨.mv (.slot 16), some 14, none⟩, []⟩])
   (.cond (.slot 14)
    (.seq (.region false [⟨⟨.mv (.const (.int .i64 (.ofNat 0))), some 8, none⟩, []⟩,
      ⟨⟨.mv (.const (.int .i64 (.ofNat 3))), some 9, none⟩, []⟩])
    .ret)
    (.seq (.region false [⟨⟨.mv (.slot 0), some 18, none⟩, []⟩,
      ⟨⟨.mv (.slot 1), some 19, none⟩, []⟩,
      ⟨⟨.call (.const (.func 20 [] [])) [(.slot 18), (.slot 19)], some 20, none⟩, []⟩,
      ⟨⟨.un .not (.slot 20), some 21, none⟩, []⟩,
      ⟨⟨.mv (.slot 21), some 17, none⟩, []⟩])
    (.cond (.slot 17)
     (.seq (.region false [⟨⟨.mv (.const (.int .i64 (.ofNat 0))), some 8, none⟩, []⟩,
       ⟨⟨.mv (.const (.int .i64 (.ofNat 4))), some 9, none⟩, []⟩])
     .ret)
     .skip)))))))
  (.seq (.seq (.region false [⟨⟨.mv (.slot 0), some 22, none⟩, []⟩,
    ⟨⟨.mv (.slot 1), some 23, none⟩, []⟩,
    ⟨⟨.mv (.slot 2), some 24, none⟩, []⟩,
    ⟨⟨.call (.const (.func 21 [] [])) [(.slot 22), (.slot 23), (.slot 24)], some 25, none⟩, []⟩,
    ⟨⟨.mv (.slot 25), some 10, none⟩, []⟩])
  (.seq (.region false [⟨⟨.mv (.slot 10), some 26, none⟩, []⟩,
    ⟨⟨.bin .neq 34 .num (.slot 26) (.const (.int .i64 (.ofNat 0))), some 27, none⟩, []⟩])
  (.cond (.slot 27)
   (.seq (.region false [⟨⟨.mv (.slot 10), some 28, none⟩, []⟩,
     ⟨⟨.mv (.const (.int .i64 (.ofNat 0))), some 8, none⟩, []⟩,
     ⟨⟨.mv (.slot 28), some 9, none⟩, []⟩])
   .ret)
   .skip)))
  (.seq (.region false [⟨⟨.mv (.slot 0), some 29, none⟩, []⟩,
    ⟨⟨.mv (.slot 1), some 30, none⟩, []⟩,
    ⟨⟨.mv (.slot 3), some 31, none⟩, []⟩,
    ⟨⟨.call (.const (.func 22 [] [])) [(.slot 29), (.slot 30), (.slot 31)], some 32, none⟩, []⟩])
  (.seq (.region true [⟨⟨.mv (.slot 0), some 33, none⟩, []⟩,
    ⟨⟨.mv (.slot 0), some 34, none⟩, []⟩,
    ⟨⟨.nilCheck (.slot 34), some 35, none⟩, []⟩,
    ⟨⟨.faddr 5 (.slot 35), some 36, none⟩, []⟩,
    ⟨⟨.load false 1 (.slot 36), some 37, none⟩, []⟩,
    ⟨⟨.mv (.slot 0), some 38, none⟩, []⟩,
    ⟨⟨.nilCheck (.slot 38), some 39, none⟩, []⟩,
    ⟨⟨.faddr 4 (.slot 39), some 40, none⟩, []⟩,
    ⟨⟨.load false 1 (.slot 40), some 41, none⟩, []⟩,
    ⟨⟨.mv (.slot 1), some 42, none⟩, []⟩,
    ⟨⟨.mv (.slot 2), some 44, none⟩, []⟩,
    ⟨⟨.call (.const (.func 23 [] [])) [(.slot 42)], some 43, none⟩, [⟨.load false 1 (.slot 36), some 37, none⟩, ⟨.load false 1 (.slot 40), some 41, none⟩]⟩,
    ⟨⟨.call (.const (.func 24 [] [])) [(.slot 44)], some 45, none⟩, [⟨.load false 1 (.slot 36), some 37, none⟩, ⟨.load false 1 (.slot 40), some 41, none⟩]⟩,
    ⟨⟨.build [(.int .u8 (.ofNat 0)), (.int .i64 (.ofNat 0)), .nils, .nils] [(0, 1, (.const (.int .u8 (.ofNat 1)))), (1, 1, (.slot 41)), (2, 1, (.slot 43)), (3, 1, (.slot 45))], some 46, none⟩, []⟩,
    ⟨⟨.bslice 4 [(.int .u8 (.ofNat 0)), (.int .i64 (.ofNat 0)), .nils, .nils] [(0, 4, (.slot 46))] 1, some 47, none⟩, [⟨.load false 1 (.slot 36), some 37, none⟩]⟩,
    ⟨⟨.append 4 64 (.slot 37) (.slot 47), some 48, none⟩, []⟩,
    ⟨⟨.nilCheck (.slot 33), some 49, none⟩, []⟩,
    ⟨⟨.faddr 5 (.slot 49), some 50, none⟩, []⟩,
    ⟨⟨.store 1 (.slot 50) (.slot 48), none, none⟩, []⟩])
  (.seq (.region true [⟨⟨.mv (.slot 0), some 51, none⟩, []⟩,
    ⟨⟨.mv (.slot 0), some 52, none⟩, []⟩,
    ⟨⟨.nilCheck (.slot 52), some 53, none⟩, []⟩,
    ⟨⟨.faddr 4 (.slot 53), some 54, none⟩, []⟩,
    ⟨⟨.load false 1 (.slot 54), some 55, none⟩, []⟩,
    ⟨⟨.mv (.slot 3), some 56, none⟩, []⟩,
    ⟨⟨.mv (.slot 1), some 57, none⟩, []⟩,
    ⟨⟨.mv (.slot 2), some 59, none⟩, []⟩,
    ⟨⟨.call (.const (.func 23 [] [])) [(.slot 57)], some 58, none⟩, [⟨.load false 1 (.slot 54), some 55, none⟩]⟩,
    ⟨⟨.call (.const (.func 24 [] [])) [(.slot 59)], some 60, none⟩, [⟨.load false 1 (.slot 54), some 55, none⟩]⟩,
    ⟨⟨.build [(.int .u8 (.ofNat 0)), (.int .i64 (.ofNat 0)), (.int .i64 (.ofNat 0)), (.bool false), .nils, .nils] [(0, 1, (.const (.int .u8 (.ofNat 1)))), (1, 1, (.slot 55)), (3, 1, (.slot 56)), (4, 1, (.slot 58)), (5, 1, (.slot 60))], some 61, none⟩, []⟩,
    ⟨⟨.call (.const (.func 25 [] [])) [(.slot 51), (.slot 61)], some 62, none⟩, []⟩])
  (.seq (.region false [⟨⟨.mv (.slot 0), some 63, none⟩, []⟩,
    ⟨⟨.nilCheck (.slot 63), some 64, none⟩, []⟩,
    ⟨⟨.faddr 4 (.slot 64), some 65, none⟩, []⟩,
    ⟨⟨.load false 1 (.slot 65), some 66, none⟩, []⟩,
    ⟨⟨.mv (.slot 66), some 8, none⟩, []⟩,
    ⟨⟨.mv (.const (.int .i64 (.ofNat 0))), some 9, none⟩, []⟩])
  .ret))))))),
  [.tmp 8, .tmp 9]⟩
theorem xf8_ok : compFunc Tryz.prog Tryz.f8 = some xf8 := by kernel_rfl
/-- (threshing/gates.Gate).Value -/
def xf9 : XFunc := ⟨(.seq (.region false [⟨⟨.box (.slot 0), some 2, none⟩, []⟩,
    ⟨⟨.box (.slot 1), some 3, none⟩, []⟩,
    ⟨⟨.mv (.const (.bool false)), some 4, none⟩, []⟩])
  (.seq (.region false [⟨⟨.mkfunc 26 [] [(.slot 2), (.slot 3)], some 8, none⟩, []⟩,
    ⟨⟨.mv (.slot 8), some 5, none⟩, []⟩])
  (.seq (.seq (.region false [⟨⟨.faddr 2 (.slot 2), some 9, none⟩, []⟩,
    ⟨⟨.load false 1 (.slot 9), some 10, none⟩, []⟩,
    ⟨⟨.len .slice (.slot 10), some 11, none⟩, []⟩,
    ⟨⟨.mv (.slot 11), some 6, none⟩, []⟩])
  (.block 0 (.seq (.region false [⟨⟨.faddr 0 (.slot 2), some 13, none⟩, []⟩,
    ⟨⟨.load false 1 (.slot 13), some 14, none⟩, []⟩,
    ⟨⟨.bin .eql 5 .num (.slot 14) (.const (.int .u8 (.ofNat 1))), some 15, none⟩, []⟩,
    ⟨⟨.mv (.slot 15), some 16, none⟩, []⟩,
    ⟨⟨.mv (.slot 6), some 17, some (16, true)⟩, []⟩,
    ⟨⟨.bin .geq 3 .num (.slot 17) (.const (.int .i64 (.ofNat 1))), some 18, some (16, true)⟩, []⟩,
    ⟨⟨.pick (.slot 16) (.slot 18) (.const (.bool false)), some 19, none⟩, []⟩,
    ⟨⟨.mv (.slot 19), some 12, none⟩, []⟩])
  (.cond (.slot 12)
   (.seq (.region false [⟨⟨.mv (.slot 5), some 20, none⟩, []⟩,
     ⟨⟨.call (.slot 20) [(.const (.int .i64 (.ofNat 0)))], some 21, none⟩, []⟩,
     ⟨⟨.mv (.slot 21), some 4, none⟩, []⟩])
   .ret)
   (.seq (.region false [⟨⟨.faddr 0 (.slot 2), some 23, none⟩, []⟩,
     ⟨⟨.load false 1 (.slot 23), some 24, none⟩, []⟩,
     ⟨⟨.bin .eql 5 .num (.slot 24) (.const (.int .u8 (.ofNat 2))), some 25, none⟩, []⟩,
     ⟨⟨.mv (.slot 25), some 26, none⟩, []⟩,
     ⟨⟨.mv (.slot 6), some 27, some (26, true)⟩, []⟩,
     ⟨⟨.bin .geq 3 .num (.slot 27) (.const (.int .i64 (.ofNat 1))), some 28, some (26, true)⟩, []⟩,
     ⟨⟨.pick (.slot 26) (.slot 28) (.const (.bool false)), some 29, none⟩, []⟩,
     ⟨⟨.mv (.slot 29), some 22, none⟩, []⟩])
   (.cond (.slot 22)
    (.seq (.seq (.region false [⟨⟨.faddr 2 (.slot 2), some 30, none⟩, []⟩,
      ⟨⟨.load false 1 (.slot 30), some 31, none⟩, []⟩,
      ⟨⟨.len .slice (.slot 31), some 32, none⟩, []⟩,
      ⟨⟨.mv (.const (.int .i64 (.ofNat 0))), some 33, none⟩, []⟩])
    (.block 1 (.loop (.seq (.region false [⟨⟨.bin .lss 3 .num (.slot 33) (.slot 32), some 34, none⟩, []⟩])
     (.seq (.cond (.slot 34)
      .skip
      (.exit 1))
     (.seq (.block 2 (.seq (.region false [⟨⟨.mv (.slot 33), some 35, none⟩, []⟩,
       ⟨⟨.mv (.slot 35), some 7, none⟩, []⟩])
     (.seq (.region false [⟨⟨.mv (.slot 5), some 36, none⟩, []⟩,
       ⟨⟨.mv (.slot 7), some 37, none⟩, []⟩,
       ⟨⟨.call (.slot 36) [(.slot 37)], some 38, none⟩, []⟩,
       ⟨⟨.un .not (.slot 38), some 39, none⟩, []⟩])
     (.cond (.slot 39)
      (.seq (.region false [⟨⟨.mv (.const (.bool false)), some 4, none⟩, []⟩])
      .ret)
      .skip))))
     (.region false [⟨⟨.bin .add 3 .num (.slot 33) (.const (.int .i64 (.ofNat 1))), some 40, none⟩, []⟩,
       ⟨⟨.mv (.slot 40), some 33, none⟩, []⟩])))))))
    (.seq (.region false [⟨⟨.mv (.const (.bool true)), some 4, none⟩, []⟩])
    .ret))
    (.seq (.region false [⟨⟨.faddr 0 (.slot 2), some 42, none⟩, []⟩,
      ⟨⟨.load false 1 (.slot 42), some 43, none⟩, []⟩,
      ⟨⟨.bin .eql 5 .num (.slot 43) (.const (.int .u8 (.ofNat 3))), some 44, none⟩, []⟩,
      ⟨⟨.mv (.slot 44), some 45, none⟩, []⟩,
      ⟨⟨.mv (.slot 6), some 46, some (45, true)⟩, []⟩,
      ⟨⟨.bin .geq 3 .num (.slot 46) (.const (.int .i64 (.ofNat 2))), some 47, some (45, true)⟩, []⟩,
      ⟨⟨.pick (.slot 45) (.slot 47) (.const (.bool false)), some 48, none⟩, []⟩,
      ⟨⟨.mv (.slot 48), some 41, none⟩, []⟩])
    (.cond (.slot 41)
     (.seq (.region false [⟨⟨.mv (.slot 5), some 49, none⟩, []⟩,
       ⟨⟨.call (.slot 49) [(.const (.int .i64 (.ofNat 0)))], some 50, none⟩, []⟩,
       ⟨⟨.mv (.slot 5), some 51, none⟩, []⟩,
       ⟨⟨.call (.slot 51) [(.const (.int .i64 (.ofNat 1)))], some 52, none⟩, []⟩,
       ⟨⟨.bin .neq 4 .bool (.slot 50) (.slot 52), some 53, none⟩, []⟩,
       ⟨⟨.mv (.slot 53), some 4, none⟩, []⟩])
     .ret)
     (.seq (.region false [⟨⟨.faddr 0 (.slot 2), some 55, none⟩, []⟩,
       ⟨⟨.load false 1 (.slot 55), some 56, none⟩, []⟩,
       ⟨⟨.bin .eql 5 .num (.slot 56) (.const (.int .u8 (.ofNat 4))), some 57, none⟩, []⟩,
       ⟨⟨.mv (.slot 57), some 58, none⟩, []⟩,
       ⟨⟨.mv (.slot 6), some 59, some (58, true)⟩, []⟩,
       ⟨⟨.bin .geq 3 .num (.slot 59) (.const (.int .i64 (.ofNat 3))), some 60, some (58, true)⟩, []⟩,
       ⟨⟨.pick (.slot 58) (.slot 60) (.const (.bool false)), some 61, none⟩, []⟩,
       ⟨⟨.mv (.slot 61), some 54, none⟩, []⟩])
     (.cond (.slot 54)
      (.seq (.seq (.region false [⟨⟨.mv (.slot 5), some 62, none⟩, []⟩,
        ⟨⟨.call (.slot 62) [(.const (.int .i64 (.ofNat 0)))], some 63, none⟩, []⟩])
      (.cond (.slot 63)
       (.seq (.region false [⟨⟨.mv (.slot 5), some 64, none⟩, []⟩,
         ⟨⟨.call (.slot 64) [(.const (.int .i64 (.ofNat 1)))], some 65, none⟩, []⟩,
         ⟨⟨.mv (.slot 65), some 4, none⟩, []⟩])
       .ret)
       .skip))
      (.seq (.region false [⟨⟨.mv (.slot 5), some 66, none⟩, []⟩,
        ⟨⟨.call (.slot 66) [(.const (.int .i64 (.ofNat 2)))], some 67, none⟩, []⟩,
        ⟨⟨.mv (.slot 67), some 4, none⟩, []⟩])
      .ret))
      .skip))))))))))
  (.seq (.region false [⟨⟨.mv (.const (.bool false)), some 4, none⟩, []⟩])
  .ret)))),
  [.tmp 4]⟩
theorem xf9_ok : compFunc Tryz.prog Tryz.f9 = some xf9 := by kernel_rfl
/-- threshing/threshinglaw26.works -/
def xf10 : XFunc := ⟨(.seq (.region false [⟨⟨.mv (.const (.bool false)), some 0, none⟩, []⟩])
  (.seq (.region false [⟨⟨.bslice 1 [(.int .i32 (.ofNat 0)), (.int .i32 (.ofNat 0))] [(0, 1, (.const (.int .i32 (.ofNat 2)))), (1, 1, (.const (.int .i32 (.ofNat 3))))] 2, some 1, none⟩, []⟩,
    ⟨⟨.bslice 1 [(.int .i64 (.ofNat 0)), (.int .i64 (.ofNat 0)), (.int .i64 (.ofNat 0))] [(0, 1, (.const (.int .i64 (.ofNat 1)))), (1, 1, (.const (.int .i64 (.ofNat 2)))), (2, 1, (.const (.int .i64 (.ofNat 3))))] 3, some 2, none⟩, []⟩,
    ⟨⟨.bslice 1 [(.int .i32 (.ofNat 0)), (.int .i32 (.ofNat 0)), (.int .i32 (.ofNat 0))] [(0, 1, (.const (.int .i32 (.ofNat 1)))), (1, 1, (.const (.int .i32 (.negSucc 1)))), (2, 1, (.const (.int .i32 (.negSucc 2))))] 3, some 3, none⟩, []⟩,
    ⟨⟨.bslice 1 [(.int .i32 (.ofNat 0)), (.int .i32 (.ofNat 0))] [(0, 1, (.const (.int .i32 (.negSucc 0)))), (1, 1, (.const (.int .i32 (.ofNat 2))))] 2, some 4, none⟩, []⟩,
    ⟨⟨.bslice 1 [(.int .i32 (.ofNat 0)), (.int .i32 (.ofNat 0))] [(0, 1, (.const (.int .i32 (.negSucc 0)))), (1, 1, (.const (.int .i32 (.ofNat 3))))] 2, some 5, none⟩, []⟩,
    ⟨⟨.bslice 1 [.nils, .nils, .nils] [(0, 1, (.slot 3)), (1, 1, (.slot 4)), (2, 1, (.slot 5))] 3, some 6, none⟩, []⟩,
    ⟨⟨.call (.const (.func 4 [] [])) [(.const (.int .u8 (.ofNat 2))), (.const (.int .i32 (.ofNat 1))), (.slot 1), (.slot 2), (.slot 6)], some 7, none⟩, []⟩,
    ⟨⟨.mv (.slot 7), some 0, none⟩, []⟩])
  .ret)),
  [.tmp 0]⟩
theorem xf10_ok : compFunc Tryz.prog Tryz.f10 = some xf10 := by kernel_rfl
/-- threshing/threshingkit.SameClause -/
def xf11 : XFunc := ⟨(.seq (.region false [⟨⟨.mv (.const (.bool false)), some 4, none⟩, []⟩])
  (.seq (.seq (.region false [⟨⟨.mv (.slot 0), some 6, none⟩, []⟩,
    ⟨⟨.len .slice (.slot 6), some 7, none⟩, []⟩,
    ⟨⟨.mv (.slot 1), some 8, none⟩, []⟩,
    ⟨⟨.len .slice (.slot 8), some 9, none⟩, []⟩,
    ⟨⟨.bin .neq 3 .num (.slot 7) (.slot 9), some 10, none⟩, []⟩])
  (.cond (.slot 10)
   (.seq (.region false [⟨⟨.mv (.const (.bool false)), some 4, none⟩, []⟩])
   .ret)
   .skip))
  (.seq (.seq (.region false [⟨⟨.mv (.const (.int .i64 (.ofNat 0))), some 5, none⟩, []⟩])
  (.block 0 (.loop (.seq (.seq (.region false [⟨⟨.mv (.slot 5), some 11, none⟩, []⟩,
     ⟨⟨.mv (.slot 0), some 12, none⟩, []⟩,
     ⟨⟨.len .slice (.slot 12), some 13, none⟩, []⟩,
     ⟨⟨.bin .lss 3 .num (.slot 11) (.slot 13), some 14, none⟩, []⟩])
   (.cond (.slot 14)
    .skip
    (.exit 0)))
   (.seq (.block 1 (.seq (.region true [⟨⟨.mv (.slot 0), some 17, none⟩, []⟩,
     ⟨⟨.mv (.slot 5), some 18, none⟩, []⟩,
     ⟨⟨.iaddr 1 (.slot 17) (.slot 18), some 19, none⟩, []⟩,
     ⟨⟨.load false 1 (.slot 19), some 20, none⟩, []⟩,
     ⟨⟨.mv (.slot 1), some 21, none⟩, []⟩,
     ⟨⟨.mv (.slot 5), some 22, none⟩, []⟩,
     ⟨⟨.iaddr 1 (.slot 21) (.slot 22), some 23, none⟩, []⟩,
     ⟨⟨.load false 1 (.slot 23), some 24, none⟩, []⟩,
     ⟨⟨.bin .neq 23 .num (.slot 20) (.slot 24), some 25, none⟩, []⟩])
   (.cond (.slot 25)
    (.seq (.region false [⟨⟨.mv (.const (.bool false)), some 4, none⟩, []⟩])
    .ret)
    .skip)))
   (.region false [⟨⟨.mv (.slot 5), some 15, none⟩, []⟩,
     ⟨⟨.bin .add 3 .num (.slot 15) (.const (.int .i64 (.ofNat 1))), some 16, none⟩, []⟩,
     ⟨⟨.mv (.slot 16), some 5, none⟩, []⟩]))))))
  (.seq (.region false [⟨⟨.mv (.const (.bool true)), some 4, none⟩, []⟩])
  .ret)))),
  [.tmp 4]⟩
theorem xf11_ok : compFunc Tryz.prog Tryz.f11 = some xf11 := by kernel_rfl
/-- threshing/base.New -/
def xf12 : XFunc := ⟨(.seq (.region false [⟨⟨.box (.slot 0), some 1, none⟩, []⟩,
    ⟨⟨.mv (.const .nilp), some 2, none⟩, []⟩,
    ⟨⟨.mv (.const (.int .i64 (.ofNat 0))), some 3, none⟩, []⟩])
  (.seq (.seq (.region false [⟨⟨.load true 2 (.slot 1), some 8, none⟩, []⟩,
    ⟨⟨.call (.const (.func 28 [] [])) [(.slot 8)], some 9, none⟩, []⟩,
    ⟨⟨.mv (.slot 9), some 4, none⟩, []⟩])
  (.seq (.region false [⟨⟨.mv (.slot 4), some 10, none⟩, []⟩,
    ⟨⟨.bin .neq 34 .num (.slot 10) (.const (.int .i64 (.ofNat 0))), some 11, none⟩, []⟩])
  (.cond (.slot 11)
   (.seq (.region false [⟨⟨.mv (.slot 4), some 12, none⟩, []⟩,
     ⟨⟨.mv (.const .nilp), some 2, none⟩, []⟩,
     ⟨⟨.mv (.slot 12), some 3, none⟩, []⟩])
   .ret)
   .skip)))
  (.seq (.region false [⟨⟨.faddr 0 (.slot 1), some 13, none⟩, []⟩,
    ⟨⟨.load false 1 (.slot 13), some 14, none⟩, []⟩,
    ⟨⟨.mkmap .i64, some 15, none⟩, []⟩,
    ⟨⟨.mkmap .i32, some 16, none⟩, []⟩,
    ⟨⟨.mkmap .i64, some 17, none⟩, []⟩,
    ⟨⟨.build [(.int .i64 (.ofNat 0)), .nilm, .nilm, .nilm, (.int .i64 (.ofNat 0)), .nils, .nils, .nils] [(0, 1, (.slot 14)), (1, 1, (.slot 15)), (2, 1, (.slot 16)), (3, 1, (.slot 17))], some 18, none⟩, []⟩,
    ⟨⟨.box (.slot 18), some 19, none⟩, []⟩,
    ⟨⟨.mv (.slot 19), some 5, none⟩, []⟩])
  (.seq (.seq (.region false [⟨⟨.faddr 1 (.slot 1), some 20, none⟩, []⟩,
    ⟨⟨.load false 1 (.slot 20), some 21, none⟩, []⟩,
    ⟨⟨.len .slice (.slot 21), some 22, none⟩, []⟩,
    ⟨⟨.mv (.const (.int .i64 (.ofNat 0))), some 23, none⟩, []⟩])
  (.block 0 (.loop (.seq (.region false [⟨⟨.bin .lss 3 .num (.slot 23) (.slot 22), some 24, none⟩, []⟩])
   (.seq (.cond (.slot 24)
    .skip
    (.exit 0))
   (.seq (.block 1 (.seq (.region false [⟨⟨.iaddr 1 (.slot 21) (.slot 23), some 25, none⟩, []⟩,
     ⟨⟨.load false 1 (.slot 25), some 26, none⟩, []⟩,
     ⟨⟨.mv (.slot 26), some 7, none⟩, []⟩])
   (.region false [⟨⟨.mv (.slot 5), some 27, none⟩, []⟩,
     ⟨⟨.mv (.slot 7), some 28, none⟩, []⟩,
     ⟨⟨.call (.const (.func 22 [] [])) [(.slot 27), (.slot 28), (.const (.bool false))], some 29, none⟩, []⟩])))
   (.region false [⟨⟨.bin .add 3 .num (.slot 23) (.const (.int .i64 (.ofNat 1))), some 30, none⟩, []⟩,
     ⟨⟨.mv (.slot 30), some 23, none⟩, []⟩])))))))
  (.seq (.region false [⟨⟨.mv (.slot 5), some 31, none⟩, []⟩,
    ⟨⟨.mv (.slot 31), some 2, none⟩, []⟩,
    ⟨⟨.mv (.const (.int .i64 (.ofNat 0))), some 3, none⟩, []⟩])
  .ret))))),
  [.tmp 2, .tmp 3]⟩
theorem xf12_ok : compFunc Tryz.prog Tryz.f12 = some xf12 := by kernel_rfl
/-- (*threshing/base.Base).Vars -/
def xf13 : XFunc := ⟨(.seq (.region false [⟨⟨.mv (.const (.int .i64 (.ofNat 0))), some 2, none⟩, []⟩])
  (.seq (.seq (.region false [⟨⟨.mv (.slot 0), some 3, none⟩, []⟩,
    ⟨⟨.bin .eql 27 .ptr (.slot 3) (.const .nilp), some 4, none⟩, []⟩])
  (.cond (.slot 4)
   (.seq (.region false [⟨⟨.mv (.const (.int .i64 (.ofNat 0))), some 2, none⟩, []⟩])
   .ret)
   .skip))
  (.seq (.region false [⟨⟨.mv (.slot 0), some 5, none⟩, []⟩,
    ⟨⟨.nilCheck (.slot 5), some 6, none⟩, []⟩,
    ⟨⟨.faddr 0 (.slot 6), some 7, none⟩, []⟩,
    ⟨⟨.load false 1 (.slot 7), some 8, none⟩, []⟩,
    ⟨⟨.mv (.slot 8), some 2, none⟩, []⟩])
  .ret))),
  [.tmp 2]⟩
theorem xf13_ok : compFunc Tryz.prog Tryz.f13 = some xf13 := by kernel_rfl
/-- threshing/gates.of -/
def xf14 : XFunc := ⟨(.seq (.region false [⟨⟨.mv (.const .nilp), some 4, none⟩, []⟩])
  (.seq (.region false [⟨⟨.mv (.slot 0), some 17, none⟩, []⟩,
    ⟨⟨.mv (.slot 1), some 18, none⟩, []⟩,
    ⟨⟨.build [.nilp, (.int .i32 (.ofNat 0)), .nils, .nils] [(0, 1, (.slot 17)), (1, 1, (.slot 18))], some 19, none⟩, []⟩,
    ⟨⟨.box (.slot 19), some 20, none⟩, []⟩,
    ⟨⟨.mv (.slot 20), some 5, none⟩, []⟩])
  (.seq (.region false [⟨⟨.mv (.slot 0), some 21, none⟩, []⟩,
    ⟨⟨.mv (.slot 1), some 22, none⟩, []⟩,
    ⟨⟨.call (.const (.func 30 [] [])) [(.slot 21), (.slot 22)], some 23, none⟩, []⟩,
    ⟨⟨.mv (.slot 0), some 24, none⟩, []⟩,
    ⟨⟨.mv (.slot 1), some 25, none⟩, []⟩,
    ⟨⟨.un .neg (.slot 25), some 26, none⟩, []⟩,
    ⟨⟨.call (.const (.func 30 [] [])) [(.slot 24), (.slot 26)], some 27, none⟩, []⟩,
    ⟨⟨.bslice 1 [.nils, .nils] [(0, 1, (.slot 23)), (1, 1, (.slot 27))] 2, some 28, none⟩, []⟩,
    ⟨⟨.call (.const (.func 29 [] [])) [(.slot 28)], some 29, none⟩, []⟩,
    ⟨⟨.mv (.slot 29), some 6, none⟩, []⟩])
  (.seq (.region false [⟨⟨.mv (.slot 6), some 30, none⟩, []⟩,
    ⟨⟨.call (.const (.func 31 [] [])) [(.slot 30)], some 31, none⟩, []⟩])
  (.seq (.region false [⟨⟨.mv (.const .nils), some 7, none⟩, []⟩])
  (.seq (.seq (.region false [⟨⟨.mv (.slot 6), some 32, none⟩, []⟩,
    ⟨⟨.call (.const (.func 32 [] [])) [(.slot 32)], some 33, none⟩, []⟩,
    ⟨⟨.len .slice (.slot 33), some 34, none⟩, []⟩,
    ⟨⟨.mv (.const (.int .i64 (.ofNat 0))), some 35, none⟩, []⟩])
  (.block 0 (.loop (.seq (.region false [⟨⟨.bin .lss 3 .num (.slot 35) (.slot 34), some 36, none⟩, []⟩])
   (.seq (.cond (.slot 36)
    .skip
    (.exit 0))
   (.seq (.block 1 (.seq (.region false [⟨⟨.iaddr 1 (.slot 33) (.slot 35), some 37, none⟩, []⟩,
     ⟨⟨.load false 1 (.slot 37), some 38, none⟩, []⟩,
     ⟨⟨.mv (.slot 38), some 9, none⟩, []⟩])
   (.seq (.region false [⟨⟨.mv (.slot 0), some 40, none⟩, []⟩,
     ⟨⟨.mv (.slot 9), some 41, none⟩, []⟩,
     ⟨⟨.call (.const (.func 33 [] [])) [(.slot 40), (.slot 41)], some 42, none⟩, []⟩,
     ⟨⟨.mv (.slot 42), some 39, none⟩, []⟩,
     ⟨⟨.extract (.slot 39) 0, some 43, none⟩, []⟩,
     ⟨⟨.extract (.slot 39) 1, some 44, none⟩, []⟩,
     ⟨⟨.alloc [(.int .i64 (.ofNat 0)), .nils, (.bool false)], some 10, none⟩, []⟩,
     ⟨⟨.store 3 (.slot 10) (.slot 43), none, none⟩, []⟩,
     ⟨⟨.mv (.slot 44), some 11, none⟩, []⟩])
   (.seq (.seq (.region false [⟨⟨.faddr 2 (.slot 10), some 45, none⟩, []⟩,
     ⟨⟨.load false 1 (.slot 45), some 46, none⟩, []⟩])
   (.cond (.slot 46)
    (.exit 1)
    .skip))
   (.seq (.region true [⟨⟨.mv (.slot 5), some 47, none⟩, []⟩,
     ⟨⟨.mv (.slot 5), some 48, none⟩, []⟩,
     ⟨⟨.nilCheck (.slot 48), some 49, none⟩, []⟩,
     ⟨⟨.faddr 2 (.slot 49), some 50, none⟩, []⟩,
     ⟨⟨.load false 1 (.slot 50), some 51, none⟩, []⟩,
     ⟨⟨.load true 3 (.slot 10), some 52, none⟩, []⟩,
     ⟨⟨.bslice 3 [(.int .i64 (.ofNat 0)), .nils, (.bool false)] [(0, 3, (.slot 52))] 1, some 53, none⟩, [⟨.load false 1 (.slot 50), some 51, none⟩]⟩,
     ⟨⟨.append 3 40 (.slot 51) (.slot 53), some 54, none⟩, []⟩,
     ⟨⟨.nilCheck (.slot 47), some 55, none⟩, []⟩,
     ⟨⟨.faddr 2 (.slot 55), some 56, none⟩, []⟩,
     ⟨⟨.store 1 (.slot 56) (.slot 54), none, none⟩, []⟩])
   (.seq (.region false [⟨⟨.faddr 1 (.slot 10), some 57, none⟩, []⟩,
     ⟨⟨.load false 1 (.slot 57), some 58, none⟩, []⟩,
     ⟨⟨.len .slice (.slot 58), some 59, none⟩, []⟩,
     ⟨⟨.mv (.const (.int .i64 (.ofNat 0))), some 60, none⟩, []⟩])
   (.block 2 (.loop (.seq (.region false [⟨⟨.bin .lss 3 .num (.slot 60) (.slot 59), some 61, none⟩, []⟩])
    (.seq (.cond (.slot 61)
     .skip
     (.exit 2))
    (.seq (.block 3 (.seq (.region false [⟨⟨.iaddr 1 (.slot 58) (.slot 60), some 62, none⟩, []⟩,
      ⟨⟨.load false 1 (.slot 62), some 63, none⟩, []⟩,
      ⟨⟨.mv (.slot 63), some 13, none⟩, []⟩])
    (.region false [⟨⟨.mv (.slot 7), some 64, none⟩, []⟩,
      ⟨⟨.mv (.slot 13), some 65, none⟩, []⟩,
      ⟨⟨.call (.const (.func 27 [] [])) [(.slot 65)], some 66, none⟩, []⟩,
      ⟨⟨.bslice 1 [(.int .i64 (.ofNat 0))] [(0, 1, (.slot 66))] 1, some 67, none⟩, []⟩,
      ⟨⟨.append 1 8 (.slot 64) (.slot 67), some 68, none⟩, []⟩,
      ⟨⟨.mv (.slot 68), some 7, none⟩, []⟩])))
    (.region false [⟨⟨.bin .add 3 .num (.slot 60) (.const (.int .i64 (.ofNat 1))), some 69, none⟩, []⟩,
      ⟨⟨.mv (.slot 69), some 60, none⟩, []⟩]))))))))))))
   (.region false [⟨⟨.bin .add 3 .num (.slot 35) (.const (.int .i64 (.ofNat 1))), some 70, none⟩, []⟩,
     ⟨⟨.mv (.slot 70), some 35, none⟩, []⟩])))))))
  (.seq (.region false [⟨⟨.mv (.slot 7), some 71, none⟩, []⟩,
    ⟨⟨.call (.const (.func 34 [] [])) [(.slot 71)], some 72, none⟩, []⟩])
  (.seq (.seq (.region false [⟨⟨.mv (.slot 7), some 73, none⟩, []⟩,
    ⟨⟨.call (.const (.func 35 [] [])) [(.slot 73)], some 74, none⟩, []⟩,
    ⟨⟨.len .slice (.slot 74), some 75, none⟩, []⟩,
    ⟨⟨.mv (.const (.int .i64 (.ofNat 0))), some 76, none⟩, []⟩])
  (.block 4 (.loop (.seq (.region false [⟨⟨.bin .lss 3 .num (.slot 76) (.slot 75), some 77, none⟩, []⟩])
   (.seq (.cond (.slot 77)
    .skip
    (.exit 4))
   (.seq (.block 5 (.seq (.region false [⟨⟨.iaddr 1 (.slot 74) (.slot 76), some 78, none⟩, []⟩,
     ⟨⟨.load false 1 (.slot 78), some 79, none⟩, []⟩,
     ⟨⟨.mv (.slot 79), some 15, none⟩, []⟩])
   (.seq (.region false [⟨⟨.mv (.slot 15), some 80, none⟩, []⟩,
     ⟨⟨.conv .i32 (.slot 80), some 81, none⟩, []⟩,
     ⟨⟨.mv (.slot 81), some 16, none⟩, []⟩])
   (.seq (.region false [⟨⟨.mv (.slot 16), some 82, none⟩, []⟩,
     ⟨⟨.mv (.slot 1), some 83, none⟩, []⟩,
     ⟨⟨.bin .neq 23 .num (.slot 82) (.slot 83), some 84, none⟩, []⟩])
   (.cond (.slot 84)
    (.region false [⟨⟨.mv (.slot 5), some 85, none⟩, []⟩,
      ⟨⟨.mv (.slot 5), some 86, none⟩, []⟩,
      ⟨⟨.nilCheck (.slot 86), some 87, none⟩, []⟩,
      ⟨⟨.faddr 3 (.slot 87), some 88, none⟩, []⟩,
      ⟨⟨.load false 1 (.slot 88), some 89, none⟩, []⟩,
      ⟨⟨.mv (.slot 16), some 90, none⟩, []⟩,
      ⟨⟨.un .neg (.slot 90), some 91, none⟩, []⟩,
      ⟨⟨.mv (.slot 16), some 92, none⟩, []⟩,
      ⟨⟨.bslice 1 [(.int .i32 (.ofNat 0)), (.int .i32 (.ofNat 0))] [(0, 1, (.slot 91)), (1, 1, (.slot 92))] 2, some 93, none⟩, []⟩,
      ⟨⟨.append 1 4 (.slot 89) (.slot 93), some 94, none⟩, []⟩,
      ⟨⟨.nilCheck (.slot 85), some 95, none⟩, []⟩,
      ⟨⟨.faddr 3 (.slot 95), some 96, none⟩, []⟩,
      ⟨⟨.store 1 (.slot 96) (.slot 94), none, none⟩, []⟩])
    .skip)))))
   (.region false [⟨⟨.bin .add 3 .num (.slot 76) (.const (.int .i64 (.ofNat 1))), some 97, none⟩, []⟩,
     ⟨⟨.mv (.slot 97), some 76, none⟩, []⟩])))))))
  (.seq (.region false [⟨⟨.mv (.slot 5), some 98, none⟩, []⟩,
    ⟨⟨.mv (.slot 98), some 4, none⟩, []⟩])
  .ret))))))))),
  [.tmp 4]⟩
theorem xf14_ok : compFunc Tryz.prog Tryz.f14 = some xf14 := by kernel_rfl
/-- (*threshing/gates.finder).equals -/
def xf15 : XFunc := ⟨(.seq (.region false [⟨⟨.mv (.const .nils), some 2, none⟩, []⟩])
  (.seq (.seq (.region false [⟨⟨.mv (.slot 0), some 7, none⟩, []⟩,
    ⟨⟨.nilCheck (.slot 7), some 8, none⟩, []⟩,
    ⟨⟨.faddr 3 (.slot 8), some 9, none⟩, []⟩,
    ⟨⟨.load false 1 (.slot 9), some 10, none⟩, []⟩,
    ⟨⟨.len .slice (.slot 10), some 11, none⟩, []⟩,
    ⟨⟨.mv (.const (.int .i64 (.ofNat 0))), some 12, none⟩, []⟩])
  (.block 0 (.loop (.seq (.region false [⟨⟨.bin .lss 3 .num (.slot 12) (.slot 11), some 13, none⟩, []⟩])
   (.seq (.cond (.slot 13)
    .skip
    (.exit 0))
   (.seq (.block 1 (.seq (.region false [⟨⟨.iaddr 1 (.slot 10) (.slot 12), some 14, none⟩, []⟩,
     ⟨⟨.load false 1 (.slot 14), some 15, none⟩, []⟩,
     ⟨⟨.mv (.slot 15), some 4, none⟩, []⟩])
   (.seq (.region true [⟨⟨.mv (.slot 0), some 17, none⟩, []⟩,
     ⟨⟨.mv (.slot 0), some 18, none⟩, []⟩,
     ⟨⟨.nilCheck (.slot 18), some 19, none⟩, []⟩,
     ⟨⟨.faddr 1 (.slot 19), some 20, none⟩, []⟩,
     ⟨⟨.load false 1 (.slot 20), some 21, none⟩, []⟩,
     ⟨⟨.un .neg (.slot 21), some 22, none⟩, []⟩,
     ⟨⟨.mv (.slot 4), some 23, none⟩, []⟩,
     ⟨⟨.mv (.slot 0), some 25, none⟩, []⟩,
     ⟨⟨.nilCheck (.slot 25), some 26, none⟩, []⟩,
     ⟨⟨.faddr 1 (.slot 26), some 27, none⟩, []⟩,
     ⟨⟨.load false 1 (.slot 27), some 28, none⟩, []⟩,
     ⟨⟨.mv (.slot 4), some 29, none⟩, []⟩,
     ⟨⟨.un .neg (.slot 29), some 30, none⟩, []⟩,
     ⟨⟨.bslice 1 [(.int .i32 (.ofNat 0)), (.int .i32 (.ofNat 0))] [(0, 1, (.slot 22)), (1, 1, (.slot 23))] 2, some 24, none⟩, [⟨.load false 1 (.slot 27), some 28, none⟩]⟩,
     ⟨⟨.bslice 1 [(.int .i32 (.ofNat 0)), (.int .i32 (.ofNat 0))] [(0, 1, (.slot 28)), (1, 1, (.slot 30))] 2, some 31, none⟩, [⟨.load false 1 (.slot 20), some 21, none⟩]⟩,
     ⟨⟨.bslice 1 [.nils, .nils] [(0, 1, (.slot 24)), (1, 1, (.slot 31))] 2, some 32, none⟩, []⟩,
     ⟨⟨.call (.const (.func 36 [] [])) [(.slot 17), (.slot 32)], some 33, none⟩, []⟩,
     ⟨⟨.mv (.slot 33), some 16, none⟩, []⟩,
     ⟨⟨.extract (.slot 16) 0, some 34, none⟩, []⟩,
     ⟨⟨.extract (.slot 16) 1, some 35, none⟩, []⟩,
     ⟨⟨.mv (.slot 34), some 5, none⟩, []⟩,
     ⟨⟨.mv (.slot 35), some 6, none⟩, []⟩])
   (.seq (.region false [⟨⟨.mv (.slot 6), some 36, none⟩, []⟩])
   (.cond (.slot 36)
    (.region false [⟨⟨.mv (.slot 2), some 37, none⟩, []⟩,
      ⟨⟨.mv (.slot 0), some 38, none⟩, []⟩,
      ⟨⟨.nilCheck (.slot 38), some 39, none⟩, []⟩,
      ⟨⟨.faddr 1 (.slot 39), some 40, none⟩, []⟩,
      ⟨⟨.load false 1 (.slot 40), some 41, none⟩, []⟩,
      ⟨⟨.mv (.slot 4), some 42, none⟩, []⟩,
      ⟨⟨.bslice 1 [(.int .i32 (.ofNat 0))] [(0, 1, (.slot 42))] 1, some 43, none⟩, []⟩,
      ⟨⟨.mv (.slot 5), some 44, none⟩, []⟩,
      ⟨⟨.build [(.int .u8 (.ofNat 0)), (.int .i32 (.ofNat 0)), .nils, .nils] [(0, 1, (.const (.int .u8 (.ofNat 1)))), (1, 1, (.slot 41)), (2, 1, (.slot 43)), (3, 1, (.slot 44))], some 45, none⟩, []⟩,
      ⟨⟨.bslice 4 [(.int .u8 (.ofNat 0)), (.int .i32 (.ofNat 0)), .nils, .nils] [(0, 4, (.slot 45))] 1, some 46, none⟩, []⟩,
      ⟨⟨.append 4 56 (.slot 37) (.slot 46), some 47, none⟩, []⟩,
      ⟨⟨.mv (.slot 47), some 2, none⟩, []⟩])
    .skip)))))
   (.region false [⟨⟨.bin .add 3 .num (.slot 12) (.const (.int .i64 (.ofNat 1))), some 48, none⟩, []⟩,
     ⟨⟨.mv (.slot 48), some 12, none⟩, []⟩])))))))
  (.seq (.region false [⟨⟨.mv (.slot 2), some 49, none⟩, []⟩,
    ⟨⟨.mv (.slot 49), some 2, none⟩, []⟩])
  .ret))),
  [.tmp 2]⟩
theorem xf15_ok : compFunc Tryz.prog Tryz.f15 = some xf15 := by kernel_rfl
/-- (*threshing/gates.finder).ands -/
def xf16 : XFunc := ⟨(.seq (.region false [⟨⟨.mv (.const .nils), some 2, none⟩, []⟩])
  (.seq (.seq (.region true [⟨⟨.mv (.slot 0), some 17, none⟩, []⟩,
    ⟨⟨.nilCheck (.slot 17), some 18, none⟩, []⟩,
    ⟨⟨.faddr 1 (.slot 18), some 19, none⟩, []⟩,
    ⟨⟨.load false 1 (.slot 19), some 20, none⟩, []⟩,
    ⟨⟨.mv (.slot 0), some 21, none⟩, []⟩,
    ⟨⟨.nilCheck (.slot 21), some 22, none⟩, []⟩,
    ⟨⟨.faddr 1 (.slot 22), some 23, none⟩, []⟩,
    ⟨⟨.load false 1 (.slot 23), some 24, none⟩, []⟩,
    ⟨⟨.un .neg (.slot 24), some 25, none⟩, []⟩,
    ⟨⟨.mv (.const (.int .i64 (.ofNat 0))), some 28, none⟩, []⟩,
    ⟨⟨.bslice 1 [(.int .i32 (.ofNat 0)), (.int .i32 (.ofNat 0))] [(0, 1, (.slot 20)), (1, 1, (.slot 25))] 2, some 26, none⟩, []⟩,
    ⟨⟨.len .slice (.slot 26), some 27, none⟩, []⟩])
  (.block 0 (.loop (.seq (.region false [⟨⟨.bin .lss 3 .num (.slot 28) (.slot 27), some 29, none⟩, []⟩])
   (.seq (.cond (.slot 29)
    .skip
    (.exit 0))
   (.seq (.block 1 (.seq (.region false [⟨⟨.iaddr 1 (.slot 26) (.slot 28), some 30, none⟩, []⟩,
     ⟨⟨.load false 1 (.slot 30), some 31, none⟩, []⟩,
     ⟨⟨.mv (.slot 31), some 4, none⟩, []⟩])
   (.seq (.region false [⟨⟨.mv (.slot 0), some 32, none⟩, []⟩,
     ⟨⟨.nilCheck (.slot 32), some 33, none⟩, []⟩,
     ⟨⟨.faddr 2 (.slot 33), some 34, none⟩, []⟩,
     ⟨⟨.load false 1 (.slot 34), some 35, none⟩, []⟩,
     ⟨⟨.len .slice (.slot 35), some 36, none⟩, []⟩,
     ⟨⟨.mv (.const (.int .i64 (.ofNat 0))), some 37, none⟩, []⟩])
   (.block 2 (.loop (.seq (.region false [⟨⟨.bin .lss 3 .num (.slot 37) (.slot 36), some 38, none⟩, []⟩])
    (.seq (.cond (.slot 38)
     .skip
     (.exit 2))
    (.seq (.block 3 (.seq (.region false [⟨⟨.iaddr 3 (.slot 35) (.slot 37), some 39, none⟩, []⟩,
      ⟨⟨.load true 3 (.slot 39), some 40, none⟩, []⟩,
      ⟨⟨.alloc [(.int .i64 (.ofNat 0)), .nils, (.bool false)], some 6, none⟩, []⟩,
      ⟨⟨.store 3 (.slot 6) (.slot 40), none, none⟩, []⟩])
    (.seq (.region false [⟨⟨.faddr 1 (.slot 6), some 42, none⟩, []⟩,
      ⟨⟨.load false 1 (.slot 42), some 43, none⟩, []⟩,
      ⟨⟨.call (.const (.func 37 [] [])) [(.slot 43)], some 44, none⟩, []⟩,
      ⟨⟨.mv (.slot 44), some 41, none⟩, []⟩,
      ⟨⟨.extract (.slot 41) 0, some 45, none⟩, []⟩,
      ⟨⟨.extract (.slot 41) 1, some 46, none⟩, []⟩,
      ⟨⟨.mv (.slot 45), some 7, none⟩, []⟩,
      ⟨⟨.mv (.slot 46), some 8, none⟩, []⟩])
    (.seq (.seq (.region false [⟨⟨.mv (.slot 8), some 47, none⟩, []⟩,
      ⟨⟨.mv (.slot 47), some 48, none⟩, []⟩,
      ⟨⟨.mv (.slot 7), some 49, some (48, false)⟩, []⟩,
      ⟨⟨.len .slice (.slot 49), some 50, some (48, false)⟩, []⟩,
      ⟨⟨.bin .lss 3 .num (.slot 50) (.const (.int .i64 (.ofNat 3))), some 51, some (48, false)⟩, []⟩,
      ⟨⟨.pick (.slot 48) (.const (.bool true)) (.slot 51), some 52, none⟩, []⟩,
      ⟨⟨.mv (.slot 52), some 53, none⟩, []⟩,
      ⟨⟨.mv (.slot 7), some 54, some (53, false)⟩, []⟩,
      ⟨⟨.mv (.slot 4), some 55, some (53, false)⟩, []⟩,
      ⟨⟨.call (.const (.func 38 [] [])) [(.slot 54), (.slot 55)], some 56, some (53, false)⟩, []⟩,
      ⟨⟨.un .not (.slot 56), some 57, some (53, false)⟩, []⟩,
      ⟨⟨.pick (.slot 53) (.const (.bool true)) (.slot 57), some 58, none⟩, []⟩])
    (.cond (.slot 58)
     (.exit 3)
     .skip))
    (.seq (.region false [⟨⟨.mv (.const .nils), some 9, none⟩, []⟩])
    (.seq (.seq (.region false [⟨⟨.mv (.slot 7), some 59, none⟩, []⟩,
      ⟨⟨.len .slice (.slot 59), some 60, none⟩, []⟩,
      ⟨⟨.mv (.const (.int .i64 (.ofNat 0))), some 61, none⟩, []⟩])
    (.block 4 (.loop (.seq (.region false [⟨⟨.bin .lss 3 .num (.slot 61) (.slot 60), some 62, none⟩, []⟩])
     (.seq (.cond (.slot 62)
      .skip
      (.exit 4))
     (.seq (.block 5 (.seq (.region false [⟨⟨.iaddr 1 (.slot 59) (.slot 61), some 63, none⟩, []⟩,
       ⟨⟨.load false 1 (.slot 63), some 64, none⟩, []⟩,
       ⟨⟨.mv (.slot 64), some 11, none⟩, []⟩])
     (.seq (.region false [⟨⟨.mv (.slot 11), some 65, none⟩, []⟩,
       ⟨⟨.mv (.slot 4), some 66, none⟩, []⟩,
       ⟨⟨.bin .neq 23 .num (.slot 65) (.slot 66), some 67, none⟩, []⟩])
     (.cond (.slot 67)
      (.region false [⟨⟨.mv (.slot 9), some 68, none⟩, []⟩,
        ⟨⟨.mv (.slot 11), some 69, none⟩, []⟩,
        ⟨⟨.un .neg (.slot 69), some 70, none⟩, []⟩,
        ⟨⟨.bslice 1 [(.int .i32 (.ofNat 0))] [(0, 1, (.slot 70))] 1, some 71, none⟩, []⟩,
        ⟨⟨.append 1 4 (.slot 68) (.slot 71), some 72, none⟩, []⟩,
        ⟨⟨.mv (.slot 72), some 9, none⟩, []⟩])
      .skip))))
     (.region false [⟨⟨.bin .add 3 .num (.slot 61) (.const (.int .i64 (.ofNat 1))), some 73, none⟩, []⟩,
       ⟨⟨.mv (.slot 73), some 61, none⟩, []⟩])))))))
    (.seq (.region false [⟨⟨.mv (.slot 9), some 74, none⟩, []⟩,
      ⟨⟨.len .slice (.slot 74), some 75, none⟩, []⟩,
      ⟨⟨.mkslice [.nils] 24 (.slot 75) (.slot 75), some 76, none⟩, []⟩,
      ⟨⟨.mv (.slot 76), some 12, none⟩, []⟩])
    (.seq (.seq (.region false [⟨⟨.mv (.slot 9), some 77, none⟩, []⟩,
      ⟨⟨.len .slice (.slot 77), some 78, none⟩, []⟩,
      ⟨⟨.mv (.const (.int .i64 (.ofNat 0))), some 79, none⟩, []⟩])
    (.block 6 (.loop (.seq (.region false [⟨⟨.bin .lss 3 .num (.slot 79) (.slot 78), some 80, none⟩, []⟩])
     (.seq (.cond (.slot 80)
      .skip
      (.exit 6))
     (.seq (.block 7 (.seq (.region false [⟨⟨.mv (.slot 79), some 81, none⟩, []⟩,
       ⟨⟨.iaddr 1 (.slot 77) (.slot 79), some 82, none⟩, []⟩,
       ⟨⟨.load false 1 (.slot 82), some 83, none⟩, []⟩,
       ⟨⟨.mv (.slot 81), some 13, none⟩, []⟩,
       ⟨⟨.mv (.slot 83), some 14, none⟩, []⟩])
     (.region false [⟨⟨.mv (.slot 12), some 84, none⟩, []⟩,
       ⟨⟨.mv (.slot 13), some 85, none⟩, []⟩,
       ⟨⟨.mv (.slot 4), some 86, none⟩, []⟩,
       ⟨⟨.un .neg (.slot 86), some 87, none⟩, []⟩,
       ⟨⟨.mv (.slot 14), some 88, none⟩, []⟩,
       ⟨⟨.bslice 1 [(.int .i32 (.ofNat 0)), (.int .i32 (.ofNat 0))] [(0, 1, (.slot 87)), (1, 1, (.slot 88))] 2, some 89, none⟩, []⟩,
       ⟨⟨.iaddr 1 (.slot 84) (.slot 85), some 90, none⟩, []⟩,
       ⟨⟨.store 1 (.slot 90) (.slot 89), none, none⟩, []⟩])))
     (.region false [⟨⟨.bin .add 3 .num (.slot 79) (.const (.int .i64 (.ofNat 1))), some 91, none⟩, []⟩,
       ⟨⟨.mv (.slot 91), some 79, none⟩, []⟩])))))))
    (.seq (.region false [⟨⟨.mv (.slot 0), some 93, none⟩, []⟩,
      ⟨⟨.mv (.slot 12), some 94, none⟩, []⟩,
      ⟨⟨.call (.const (.func 36 [] [])) [(.slot 93), (.slot 94)], some 95, none⟩, []⟩,
      ⟨⟨.mv (.slot 95), some 92, none⟩, []⟩,
      ⟨⟨.extract (.slot 92) 0, some 96, none⟩, []⟩,
      ⟨⟨.extract (.slot 92) 1, some 97, none⟩, []⟩,
      ⟨⟨.mv (.slot 96), some 15, none⟩, []⟩,
      ⟨⟨.mv (.slot 97), some 16, none⟩, []⟩])
    (.seq (.region false [⟨⟨.mv (.slot 16), some 98, none⟩, []⟩])
    (.cond (.slot 98)
     (.region false [⟨⟨.mv (.slot 2), some 99, none⟩, []⟩,
       ⟨⟨.mv (.slot 4), some 100, none⟩, []⟩,
       ⟨⟨.mv (.slot 9), some 101, none⟩, []⟩,
       ⟨⟨.faddr 0 (.slot 6), some 102, none⟩, []⟩,
       ⟨⟨.load false 1 (.slot 102), some 103, none⟩, []⟩,
       ⟨⟨.bslice 1 [(.int .i64 (.ofNat 0))] [(0, 1, (.slot 103))] 1, some 104, none⟩, []⟩,
       ⟨⟨.mv (.slot 15), some 105, none⟩, []⟩,
       ⟨⟨.bslice 1 [.nils, .nils] [(0, 1, (.slot 104)), (1, 1, (.slot 105))] 2, some 106, none⟩, []⟩,
       ⟨⟨.call (.const (.func 29 [] [])) [(.slot 106)], some 107, none⟩, []⟩,
       ⟨⟨.build [(.int .u8 (.ofNat 0)), (.int .i32 (.ofNat 0)), .nils, .nils] [(0, 1, (.const (.int .u8 (.ofNat 2)))), (1, 1, (.slot 100)), (2, 1, (.slot 101)), (3, 1, (.slot 107))], some 108, none⟩, []⟩,
       ⟨⟨.bslice 4 [(.int .u8 (.ofNat 0)), (.int .i32 (.ofNat 0)), .nils, .nils] [(0, 4, (.slot 108))] 1, some 109, none⟩, []⟩,
       ⟨⟨.append 4 56 (.slot 99) (.slot 109), some 110, none⟩, []⟩,
       ⟨⟨.mv (.slot 110), some 2, none⟩, []⟩])
     .skip)))))))))))
    (.region false [⟨⟨.bin .add 3 .num (.slot 37) (.const (.int .i64 (.ofNat 1))), some 111, none⟩, []⟩,
      ⟨⟨.mv (.slot 111), some 37, none⟩, []⟩])))))))))
   (.region false [⟨⟨.bin .add 3 .num (.slot 28) (.const (.int .i64 (.ofNat 1))), some 112, none⟩, []⟩,
     ⟨⟨.mv (.slot 112), some 28, none⟩, []⟩])))))))
  (.seq (.region false [⟨⟨.mv (.slot 2), some 113, none⟩, []⟩,
    ⟨⟨.mv (.slot 113), some 2, none⟩, []⟩])
  .ret))),
  [.tmp 2]⟩
theorem xf16_ok : compFunc Tryz.prog Tryz.f16 = some xf16 := by kernel_rfl
end Go.Proofs.YtkajipnhmbgkiaaGreat

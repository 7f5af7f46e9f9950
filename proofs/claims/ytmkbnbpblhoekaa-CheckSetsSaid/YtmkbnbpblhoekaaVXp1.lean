/- The functions of the program in X's code, printed by a program of ours. -/
import Derived.Test.YtmkbnbpblhoekaaProg
import Derived.Test.YtmkbnbpblhoekaaW0
import Derived.KernelRfl
namespace Go.Proofs.Ytmkbnbpblhoekaa
open Go.Xr
def r42_0 : List XLine := [xL 1 (.box (.slot 0)),
  xL 2 (.mv (.const (.int .i64 (.ofNat 0))))]
def r42_1 : List XLine := [xL 7 (.faddr 0 (.slot 1)),
  xL 8 (.load false 1 (.slot 7)),
  xL 9 (.bin .lss 3 .num (.slot 8) (.const (.int .i64 (.ofNat 0)))),
  xM 10 9,
  ⟨⟨.faddr 0 (.slot 1), some 11, some (10, false)⟩, []⟩,
  ⟨⟨.load false 1 (.slot 11), some 12, some (10, false)⟩, []⟩,
  ⟨⟨.bin .gtr 3 .num (.slot 12) (.const (.int .i64 (.ofNat 1048576))), some 13, some (10, false)⟩, []⟩,
  xL 14 (.pick (.slot 10) (.const (.bool true)) (.slot 13))]
def r42_2 : List XLine := [xL 2 (.mv (.const (.int .i64 (.ofNat 2))))]
def r42_3 : List XLine := [xL 15 (.faddr 1 (.slot 1)),
  xL 16 (.load false 1 (.slot 15)),
  xL 17 (.len .slice (.slot 16)),
  xL 18 (.bin .gtr 3 .num (.slot 17) (.const (.int .i64 (.ofNat 1048576))))]
def r42_4 : List XLine := [xL 2 (.mv (.const (.int .i64 (.ofNat 3))))]
def r42_5 : List XLine := [xL 3 (.mv (.const (.int .i64 (.ofNat 0))))]
def r42_6 : List XLine := [xL 4 (.mv (.const (.int .i64 (.ofNat 0))))]
def r42_7 : List XLine := [xM 19 4,
  xL 20 (.faddr 1 (.slot 1)),
  xL 21 (.load false 1 (.slot 20)),
  xL 22 (.len .slice (.slot 21)),
  xL 23 (.bin .lss 3 .num (.slot 19) (.slot 22))]
def r42_8 : List XLine := [xL 5 (.mv (.const (.int .i64 (.ofNat 0))))]
def r42_9 : List XLine := [xM 26 5,
  xL 27 (.faddr 1 (.slot 1)),
  xL 28 (.load false 1 (.slot 27)),
  xM 29 4,
  xL 30 (.iaddr 1 (.slot 28) (.slot 29)),
  xL 31 (.load false 1 (.slot 30)),
  xL 32 (.len .slice (.slot 31)),
  xL 33 (.bin .lss 3 .num (.slot 26) (.slot 32))]
def r42_10 : List XLine := [xM 36 3,
  xL 37 (.bin .add 3 .num (.slot 36) (.const (.int .i64 (.ofNat 1)))),
  xM 3 37]
def r42_11 : List XLine := [xM 38 3,
  xL 39 (.bin .gtr 3 .num (.slot 38) (.const (.int .i64 (.ofNat 16777216))))]
def r42_12 : List XLine := [xL 2 (.mv (.const (.int .i64 (.ofNat 3))))]
def r42_13 : List XLine := [xL 40 (.faddr 1 (.slot 1)),
  xL 41 (.load false 1 (.slot 40)),
  xM 42 4,
  xL 43 (.iaddr 1 (.slot 41) (.slot 42)),
  xL 44 (.load false 1 (.slot 43)),
  xM 45 5,
  xL 46 (.iaddr 1 (.slot 44) (.slot 45)),
  xL 47 (.load false 1 (.slot 46)),
  xM 6 47]
def r42_14 : List XLine := [xM 48 6,
  xL 49 (.bin .eql 57 .num (.slot 48) (.const (.int .i32 (.ofNat 0)))),
  xM 50 49,
  ⟨⟨.mv (.slot 6), some 51, some (50, false)⟩, []⟩,
  ⟨⟨.faddr 0 (.slot 1), some 53, some (50, false)⟩, []⟩,
  ⟨⟨.load false 1 (.slot 53), some 54, some (50, false)⟩, []⟩,
  ⟨⟨.call (.const (.func 36 [] [])) [(.slot 51)], some 52, some (50, false)⟩, [⟨.load false 1 (.slot 53), some 54, some (50, false)⟩]⟩,
  ⟨⟨.bin .gtr 3 .num (.slot 52) (.slot 54), some 55, some (50, false)⟩, []⟩,
  xL 56 (.pick (.slot 50) (.const (.bool true)) (.slot 55))]
def r42_15 : List XLine := [xL 2 (.mv (.const (.int .i64 (.ofNat 4))))]
def r42_16 : List XLine := [xM 34 5,
  xL 35 (.bin .add 3 .num (.slot 34) (.const (.int .i64 (.ofNat 1)))),
  xM 5 35]
def r42_17 : List XLine := [xM 24 4,
  xL 25 (.bin .add 3 .num (.slot 24) (.const (.int .i64 (.ofNat 1)))),
  xM 4 25]
def r42_18 : List XLine := [xL 2 (.mv (.const (.int .i64 (.ofNat 0))))]
def xf42 : XFunc := ⟨(.seq (.region false r42_0)
  (.seq (.seq (.region false r42_1)
  (.cond (.slot 14)
  (.seq (.region false r42_2)
  .ret)
  .skip))
  (.seq (.seq (.region false r42_3)
  (.cond (.slot 18)
  (.seq (.region false r42_4)
  .ret)
  .skip))
  (.seq (.region false r42_5)
  (.seq (.seq (.region false r42_6)
  (.block 0 (.loop (.seq (.seq (.region false r42_7)
  (.cond (.slot 23)
  .skip
  (.exit 0)))
  (.seq (.block 1 (.seq (.region false r42_8)
  (.block 2 (.loop (.seq (.seq (.region false r42_9)
  (.cond (.slot 33)
  .skip
  (.exit 2)))
  (.seq (.block 3 (.seq (.region false r42_10)
  (.seq (.seq (.region false r42_11)
  (.cond (.slot 39)
  (.seq (.region false r42_12)
  .ret)
  .skip))
  (.seq (.region false r42_13)
  (.seq (.region true r42_14)
  (.cond (.slot 56)
  (.seq (.region false r42_15)
  .ret)
  .skip))))))
  (.region false r42_16)))))))
  (.region false r42_17))))))
  (.seq (.region false r42_18)
  .ret)))))),
  [.tmp 2]⟩
theorem xf42_ok : compFunc Try.prog Try.f42 = some xf42 := by kernel_rfl
def r44_0 : List XLine := [xL 1 (.box (.slot 0)),
  xL 2 (.mv (.const (.bool false)))]
def r44_1 : List XLine := [xL 3 (.mv (.const (.int .i64 (.ofNat 0))))]
def r44_2 : List XLine := [xL 7 (.faddr 0 (.slot 1)),
  xL 8 (.load false 1 (.slot 7))]
def r44_3 : List XLine := [xL 10 (.bin .eql 5 .num (.slot 8) (.const (.int .u8 (.ofNat 1)))),
  xM 9 10]
def r44_4 : List XLine := [xL 3 (.mv (.const (.int .i64 (.ofNat 1))))]
def r44_5 : List XLine := [xL 12 (.bin .eql 5 .num (.slot 8) (.const (.int .u8 (.ofNat 2)))),
  xM 11 12]
def r44_6 : List XLine := [xL 13 (.faddr 2 (.slot 1)),
  xL 14 (.load false 1 (.slot 13)),
  xL 15 (.len .slice (.slot 14)),
  xL 16 (.bin .gtr 3 .num (.slot 15) (.const (.int .i64 (.ofNat 0))))]
def r44_7 : List XLine := [xL 2 (.mv (.const (.bool false)))]
def r44_8 : List XLine := [xL 2 (.mv (.const (.bool false)))]
def r44_9 : List XLine := [xL 17 (.faddr 1 (.slot 1)),
  xL 18 (.load false 1 (.slot 17)),
  xM 19 3,
  xL 20 (.bin .lss 2 .num (.slot 18) (.slot 19)),
  xM 21 20,
  ⟨⟨.faddr 1 (.slot 1), some 22, some (21, false)⟩, []⟩,
  ⟨⟨.load false 1 (.slot 22), some 23, some (21, false)⟩, []⟩,
  ⟨⟨.bin .gtr 2 .num (.slot 23) (.const (.int .i64 (.ofNat 4611686018427387903))), some 24, some (21, false)⟩, []⟩,
  xL 25 (.pick (.slot 21) (.const (.bool true)) (.slot 24))]
def r44_10 : List XLine := [xL 2 (.mv (.const (.bool false)))]
def r44_11 : List XLine := [xL 4 (.mv (.const (.int .i64 (.ofNat 0))))]
def r44_12 : List XLine := [xM 26 4,
  xL 27 (.faddr 2 (.slot 1)),
  xL 28 (.load false 1 (.slot 27)),
  xL 29 (.len .slice (.slot 28)),
  xL 30 (.bin .lss 3 .num (.slot 26) (.slot 29))]
def r44_13 : List XLine := [xL 33 (.faddr 2 (.slot 1)),
  xL 34 (.load false 1 (.slot 33)),
  xM 35 4,
  xL 36 (.iaddr 1 (.slot 34) (.slot 35)),
  xL 37 (.load false 1 (.slot 36)),
  xL 38 (.call (.const (.func 59 [] [])) [(.slot 37)]),
  xL 39 (.un .not (.slot 38))]
def r44_14 : List XLine := [xL 2 (.mv (.const (.bool false)))]
def r44_15 : List XLine := [xM 31 4,
  xL 32 (.bin .add 3 .num (.slot 31) (.const (.int .i64 (.ofNat 1)))),
  xM 4 32]
def r44_16 : List XLine := [xL 5 (.mv (.const (.int .i64 (.ofNat 0))))]
def r44_17 : List XLine := [xM 40 5,
  xL 41 (.faddr 3 (.slot 1)),
  xL 42 (.load false 1 (.slot 41)),
  xL 43 (.len .slice (.slot 42)),
  xL 44 (.bin .lss 3 .num (.slot 40) (.slot 43))]
def r44_18 : List XLine := [xL 47 (.faddr 3 (.slot 1)),
  xL 48 (.load false 1 (.slot 47)),
  xM 49 5,
  xL 50 (.iaddr 1 (.slot 48) (.slot 49)),
  xL 51 (.load false 1 (.slot 50)),
  xM 6 51]
def r44_19 : List XLine := [xM 52 6,
  xL 53 (.bin .eql 2 .num (.slot 52) (.const (.int .i64 (.ofNat 0)))),
  xM 54 53,
  ⟨⟨.mv (.slot 6), some 55, some (54, false)⟩, []⟩,
  ⟨⟨.bin .gtr 2 .num (.slot 55) (.const (.int .i64 (.ofNat 4611686018427387903))), some 56, some (54, false)⟩, []⟩,
  xL 57 (.pick (.slot 54) (.const (.bool true)) (.slot 56)),
  xM 58 57,
  ⟨⟨.mv (.slot 6), some 59, some (58, false)⟩, []⟩,
  ⟨⟨.bin .lss 2 .num (.slot 59) (.const (.int .i64 (.negSucc 4611686018427387902))), some 60, some (58, false)⟩, []⟩,
  xL 61 (.pick (.slot 58) (.const (.bool true)) (.slot 60)),
  xM 62 61,
  ⟨⟨.mv (.slot 6), some 63, some (62, false)⟩, []⟩,
  ⟨⟨.bin .lss 2 .num (.slot 63) (.const (.int .i64 (.ofNat 0))), some 64, some (62, false)⟩, []⟩,
  ⟨⟨.mv (.slot 64), some 65, some (62, false)⟩, []⟩,
  ⟨⟨.faddr 0 (.slot 1), some 66, some (65, true)⟩, []⟩,
  ⟨⟨.load false 1 (.slot 66), some 67, some (65, true)⟩, []⟩,
  ⟨⟨.bin .eql 5 .num (.slot 67) (.const (.int .u8 (.ofNat 2))), some 68, some (65, true)⟩, []⟩,
  ⟨⟨.pick (.slot 65) (.slot 68) (.const (.bool false)), some 69, some (62, false)⟩, []⟩,
  xL 70 (.pick (.slot 62) (.const (.bool true)) (.slot 69))]
def r44_20 : List XLine := [xL 2 (.mv (.const (.bool false)))]
def r44_21 : List XLine := [xM 45 5,
  xL 46 (.bin .add 3 .num (.slot 45) (.const (.int .i64 (.ofNat 1)))),
  xM 5 46]
def r44_22 : List XLine := [xL 2 (.mv (.const (.bool true)))]
def xf44 : XFunc := ⟨(.seq (.region false r44_0)
  (.seq (.region false r44_1)
  (.seq (.seq (.region false r44_2)
  (.block 0 (.seq (.region false r44_3)
  (.cond (.slot 9)
  (.region false r44_4)
  (.seq (.region false r44_5)
  (.cond (.slot 11)
  (.seq (.region false r44_6)
  (.cond (.slot 16)
  (.seq (.region false r44_7)
  .ret)
  .skip))
  (.seq (.region false r44_8)
  .ret)))))))
  (.seq (.seq (.region false r44_9)
  (.cond (.slot 25)
  (.seq (.region false r44_10)
  .ret)
  .skip))
  (.seq (.seq (.region false r44_11)
  (.block 1 (.loop (.seq (.seq (.region false r44_12)
  (.cond (.slot 30)
  .skip
  (.exit 1)))
  (.seq (.block 2 (.seq (.region false r44_13)
  (.cond (.slot 39)
  (.seq (.region false r44_14)
  .ret)
  .skip)))
  (.region false r44_15))))))
  (.seq (.seq (.region false r44_16)
  (.block 3 (.loop (.seq (.seq (.region false r44_17)
  (.cond (.slot 44)
  .skip
  (.exit 3)))
  (.seq (.block 4 (.seq (.region false r44_18)
  (.seq (.region false r44_19)
  (.cond (.slot 70)
  (.seq (.region false r44_20)
  .ret)
  .skip))))
  (.region false r44_21))))))
  (.seq (.region false r44_22)
  .ret))))))),
  [.tmp 2]⟩
theorem xf44_ok : compFunc Try.prog Try.f44 = some xf44 := by kernel_rfl
def r47_0 : List XLine := [xL 2 (.mv (.const (.int .i64 (.ofNat 0))))]
def r47_1 : List XLine := [xM 3 0,
  xL 4 (.call (.const (.func 65 [] [])) [(.slot 3)]),
  xM 2 4]
def xf47 : XFunc := ⟨(.seq (.region false r47_0)
  (.seq (.region false r47_1)
  .ret)),
  [.tmp 2]⟩
theorem xf47_ok : compFunc Try.prog Try.f47 = some xf47 := by kernel_rfl
def r48_0 : List XLine := [xL 2 (.mv (.const .nils)),
  xL 3 (.mv (.const (.bool false)))]
def r48_1 : List XLine := [xM 7 0,
  xL 8 (.call (.const (.func 49 [] [])) [(.slot 7)]),
  xM 4 8]
def r48_2 : List XLine := [xM 9 4,
  xL 10 (.call (.const (.func 66 [] [])) [(.slot 9), (.const (.func 67 [] []))])]
def r48_3 : List XLine := [xM 11 4,
  xL 12 (.call (.const (.func 68 [] [])) [(.slot 11)]),
  xM 4 12]
def r48_4 : List XLine := [xL 5 (.mv (.const (.bool false)))]
def r48_5 : List XLine := [xM 13 4,
  xL 14 (.len .slice (.slot 13)),
  xL 15 (.mv (.const (.int .i64 (.ofNat 0))))]
def r48_6 : List XLine := [xL 16 (.bin .lss 3 .num (.slot 15) (.slot 14))]
def r48_7 : List XLine := [xM 17 15,
  xM 6 17]
def r48_8 : List XLine := [xM 18 5,
  xM 19 18,
  ⟨⟨.mv (.slot 6), some 20, some (19, false)⟩, []⟩,
  ⟨⟨.bin .gtr 3 .num (.slot 20) (.const (.int .i64 (.ofNat 0))), some 21, some (19, false)⟩, []⟩,
  ⟨⟨.mv (.slot 21), some 22, some (19, false)⟩, []⟩,
  ⟨⟨.mv (.slot 4), some 23, some (22, true)⟩, []⟩,
  ⟨⟨.mv (.slot 6), some 24, some (22, true)⟩, []⟩,
  ⟨⟨.iaddr 1 (.slot 23) (.slot 24), some 25, some (22, true)⟩, []⟩,
  ⟨⟨.load false 1 (.slot 25), some 26, some (22, true)⟩, []⟩,
  ⟨⟨.bin .gtr 57 .num (.slot 26) (.const (.int .i32 (.ofNat 0))), some 27, some (22, true)⟩, []⟩,
  ⟨⟨.pick (.slot 22) (.slot 27) (.const (.bool false)), some 28, some (19, false)⟩, []⟩,
  ⟨⟨.mv (.slot 28), some 29, some (19, false)⟩, []⟩,
  ⟨⟨.mv (.slot 4), some 30, some (29, true)⟩, []⟩,
  ⟨⟨.mv (.slot 6), some 31, some (29, true)⟩, []⟩,
  ⟨⟨.iaddr 1 (.slot 30) (.slot 31), some 32, some (29, true)⟩, []⟩,
  ⟨⟨.load false 1 (.slot 32), some 33, some (29, true)⟩, []⟩,
  ⟨⟨.mv (.slot 4), some 34, some (29, true)⟩, []⟩,
  ⟨⟨.mv (.slot 6), some 35, some (29, true)⟩, []⟩,
  ⟨⟨.bin .sub 3 .num (.slot 35) (.const (.int .i64 (.ofNat 1))), some 36, some (29, true)⟩, []⟩,
  ⟨⟨.iaddr 1 (.slot 34) (.slot 36), some 37, some (29, true)⟩, []⟩,
  ⟨⟨.load false 1 (.slot 37), some 38, some (29, true)⟩, []⟩,
  ⟨⟨.un .neg (.slot 38), some 39, some (29, true)⟩, []⟩,
  ⟨⟨.bin .eql 57 .num (.slot 33) (.slot 39), some 40, some (29, true)⟩, []⟩,
  ⟨⟨.pick (.slot 29) (.slot 40) (.const (.bool false)), some 41, some (19, false)⟩, []⟩,
  xL 42 (.pick (.slot 19) (.const (.bool true)) (.slot 41)),
  xM 5 42]
def r48_9 : List XLine := [xL 43 (.bin .add 3 .num (.slot 15) (.const (.int .i64 (.ofNat 1)))),
  xM 15 43]
def r48_10 : List XLine := [xM 44 4,
  xL 45 (.call (.const (.func 69 [] [])) [(.slot 44)]),
  xM 46 5,
  xM 2 45,
  xM 3 46]
def xf48 : XFunc := ⟨(.seq (.region false r48_0)
  (.seq (.region false r48_1)
  (.seq (.region false r48_2)
  (.seq (.region false r48_3)
  (.seq (.region false r48_4)
  (.seq (.seq (.region false r48_5)
  (.block 0 (.loop (.seq (.region false r48_6)
  (.seq (.cond (.slot 16)
  .skip
  (.exit 0))
  (.seq (.block 1 (.seq (.region false r48_7)
  (.region true r48_8)))
  (.region false r48_9)))))))
  (.seq (.region false r48_10)
  .ret))))))),
  [.tmp 2, .tmp 3]⟩
theorem xf48_ok : compFunc Try.prog Try.f48 = some xf48 := by kernel_rfl
def r49_0 : List XLine := [xL 2 (.mv (.const .nils))]
def r49_1 : List XLine := [xM 3 0,
  xL 4 (.bin .eql 32 .slice (.slot 3) (.const .nils))]
def r49_2 : List XLine := [xL 2 (.mv (.const .nils))]
def r49_3 : List XLine := [xL 5 (.bslice 1 [] [] 0),
  xM 6 0,
  xL 7 (.append 1 4 (.slot 5) (.slot 6)),
  xM 2 7]
def xf49 : XFunc := ⟨(.seq (.region false r49_0)
  (.seq (.seq (.region false r49_1)
  (.cond (.slot 4)
  (.seq (.region false r49_2)
  .ret)
  .skip))
  (.seq (.region false r49_3)
  .ret))),
  [.tmp 2]⟩
theorem xf49_ok : compFunc Try.prog Try.f49 = some xf49 := by kernel_rfl
def r50_0 : List XLine := [xL 1 (.load false 1 (.slot 0)),
  xL 2 (.call (.const (.func 51 [] [])) [(.slot 1), (.const (.int .i64 (.ofNat 0)))])]
def xf50 : XFunc := ⟨(.region false r50_0),
  []⟩
theorem xf50_ok : compFunc Try.prog Try.f50 = some xf50 := by kernel_rfl
def r51_0 : List XLine := [xM 6 0,
  xL 7 (.nilCheck (.slot 6)),
  xL 8 (.faddr 5 (.slot 7)),
  xL 9 (.load false 1 (.slot 8)),
  xM 10 1,
  xL 11 (.slc 1 (.slot 9) (some (.slot 10)) none none),
  xL 12 (.len .slice (.slot 11)),
  xL 13 (.mv (.const (.int .i64 (.ofNat 0))))]
def r51_1 : List XLine := [xL 14 (.bin .lss 3 .num (.slot 13) (.slot 12))]
def r51_2 : List XLine := [xL 15 (.iaddr 1 (.slot 11) (.slot 13)),
  xL 16 (.load false 1 (.slot 15)),
  xM 5 16]
def r51_3 : List XLine := [xM 17 0,
  xL 18 (.nilCheck (.slot 17)),
  xL 19 (.faddr 4 (.slot 18)),
  xL 20 (.load false 1 (.slot 19)),
  xM 21 5,
  ⟨⟨.call (.const (.func 47 [] [])) [(.slot 21)], some 22, none⟩, [⟨.load false 1 (.slot 19), some 20, none⟩]⟩,
  xL 23 (.iaddr 1 (.slot 20) (.slot 22)),
  ⟨⟨.store 1 (.slot 23) (.const (.int .i8 (.ofNat 0))), none, none⟩, []⟩]
def r51_4 : List XLine := [xL 24 (.bin .add 3 .num (.slot 13) (.const (.int .i64 (.ofNat 1)))),
  xM 13 24]
def r51_5 : List XLine := [xM 25 0,
  xM 26 0,
  xL 27 (.nilCheck (.slot 26)),
  xL 28 (.faddr 5 (.slot 27)),
  xL 29 (.load false 1 (.slot 28)),
  xM 30 1,
  xL 31 (.slc 1 (.slot 29) none (some (.slot 30)) none),
  xL 32 (.nilCheck (.slot 25)),
  xL 33 (.faddr 5 (.slot 32)),
  ⟨⟨.store 1 (.slot 33) (.slot 31), none, none⟩, []⟩]
def xf51 : XFunc := ⟨(.seq (.seq (.region false r51_0)
  (.block 0 (.loop (.seq (.region false r51_1)
  (.seq (.cond (.slot 14)
  .skip
  (.exit 0))
  (.seq (.block 1 (.seq (.region false r51_2)
  (.region true r51_3)))
  (.region false r51_4)))))))
  (.region false r51_5)),
  []⟩
theorem xf51_ok : compFunc Try.prog Try.f51 = some xf51 := by kernel_rfl
def r52_0 : List XLine := [xM 5 1,
  xL 6 (.call (.const (.func 47 [] [])) [(.slot 5)]),
  xM 4 6]
def r52_1 : List XLine := [xM 7 4,
  xM 8 0,
  xL 9 (.nilCheck (.slot 8)),
  xL 10 (.faddr 4 (.slot 9)),
  xL 11 (.load false 1 (.slot 10)),
  xL 12 (.len .slice (.slot 11)),
  xL 13 (.bin .geq 3 .num (.slot 7) (.slot 12))]
def r52_2 : List XLine := [xM 14 0,
  xM 15 0,
  xL 16 (.nilCheck (.slot 15)),
  xL 17 (.faddr 4 (.slot 16)),
  xL 18 (.load false 1 (.slot 17)),
  xM 19 4,
  xL 20 (.bin .add 3 .num (.slot 19) (.const (.int .i64 (.ofNat 1)))),
  xM 21 0,
  xL 22 (.nilCheck (.slot 21)),
  xL 23 (.faddr 4 (.slot 22)),
  xL 24 (.load false 1 (.slot 23)),
  xL 25 (.len .slice (.slot 24)),
  xL 26 (.bin .sub 3 .num (.slot 20) (.slot 25)),
  xL 27 (.appendZ 1 1 [(.int .i8 (.ofNat 0))] (.slot 18) (.slot 26)),
  xL 28 (.nilCheck (.slot 14)),
  xL 29 (.faddr 4 (.slot 28)),
  ⟨⟨.store 1 (.slot 29) (.slot 27), none, none⟩, []⟩]
def r52_3 : List XLine := [xM 30 0,
  xL 31 (.nilCheck (.slot 30)),
  xL 32 (.faddr 4 (.slot 31)),
  xL 33 (.load false 1 (.slot 32)),
  xM 34 4,
  xL 35 (.iaddr 1 (.slot 33) (.slot 34)),
  ⟨⟨.store 1 (.slot 35) (.const (.int .i8 (.ofNat 1))), none, none⟩, []⟩]
def r52_4 : List XLine := [xM 36 1,
  xL 37 (.bin .lss 57 .num (.slot 36) (.const (.int .i32 (.ofNat 0))))]
def r52_5 : List XLine := [xM 38 0,
  xL 39 (.nilCheck (.slot 38)),
  xL 40 (.faddr 4 (.slot 39)),
  xL 41 (.load false 1 (.slot 40)),
  xM 42 4,
  xL 43 (.iaddr 1 (.slot 41) (.slot 42)),
  ⟨⟨.store 1 (.slot 43) (.const (.int .i8 (.negSucc 0))), none, none⟩, []⟩]
def r52_6 : List XLine := [xM 44 0,
  xM 45 0,
  xL 46 (.nilCheck (.slot 45)),
  xL 47 (.faddr 5 (.slot 46)),
  xL 48 (.load false 1 (.slot 47)),
  xM 49 1,
  xL 50 (.bslice 1 [(.int .i32 (.ofNat 0))] [(0, 1, (.slot 49))] 1),
  xL 51 (.append 1 4 (.slot 48) (.slot 50)),
  xL 52 (.nilCheck (.slot 44)),
  xL 53 (.faddr 5 (.slot 52)),
  ⟨⟨.store 1 (.slot 53) (.slot 51), none, none⟩, []⟩]
def xf52 : XFunc := ⟨(.seq (.region false r52_0)
  (.seq (.seq (.region false r52_1)
  (.cond (.slot 13)
  (.region true r52_2)
  .skip))
  (.seq (.region false r52_3)
  (.seq (.seq (.region false r52_4)
  (.cond (.slot 37)
  (.region false r52_5)
  .skip))
  (.region false r52_6))))),
  []⟩
theorem xf52_ok : compFunc Try.prog Try.f52 = some xf52 := by kernel_rfl
def r53_0 : List XLine := [xL 2 (.mv (.const .nils)),
  xL 3 (.mv (.const .nils))]
def r53_1 : List XLine := [xM 5 0,
  xL 6 (.call (.const (.func 70 [] [])) [(.slot 5), (.const (.func 71 [] []))]),
  xM 4 6]
def r53_2 : List XLine := [xM 7 4,
  xL 8 (.bin .lss 3 .num (.slot 7) (.const (.int .i64 (.ofNat 0))))]
def r53_3 : List XLine := [xM 9 0,
  xL 10 (.len .slice (.slot 9)),
  xM 4 10]
def r53_4 : List XLine := [xM 11 0,
  xM 12 4,
  xL 13 (.slc 1 (.slot 11) none (some (.slot 12)) none),
  xM 14 0,
  xM 15 4,
  xL 16 (.slc 1 (.slot 14) (some (.slot 15)) none none),
  xM 2 13,
  xM 3 16]
def xf53 : XFunc := ⟨(.seq (.region false r53_0)
  (.seq (.region false r53_1)
  (.seq (.seq (.region false r53_2)
  (.cond (.slot 8)
  (.region false r53_3)
  .skip))
  (.seq (.region true r53_4)
  .ret)))),
  [.tmp 2, .tmp 3]⟩
theorem xf53_ok : compFunc Try.prog Try.f53 = some xf53 := by kernel_rfl
def r54_0 : List XLine := [xL 2 (.box (.slot 0)),
  xL 4 (.mv (.const (.int .i64 (.ofNat 0))))]
def r54_1 : List XLine := [xL 9 (.mkfunc 72 [] [(.slot 2)]),
  xM 5 9]
def r54_2 : List XLine := [xM 10 1,
  xL 11 (.len .slice (.slot 10)),
  xL 12 (.mv (.const (.int .i64 (.ofNat 0))))]
def r54_3 : List XLine := [xL 13 (.bin .lss 3 .num (.slot 12) (.slot 11))]
def r54_4 : List XLine := [xL 14 (.iaddr 1 (.slot 10) (.slot 12)),
  xL 15 (.load false 1 (.slot 14)),
  xM 7 15]
def r54_5 : List XLine := [xM 16 5,
  xM 17 7,
  xL 18 (.call (.slot 16) [(.slot 17)]),
  xM 8 18]
def r54_6 : List XLine := [xM 19 8,
  xL 20 (.bin .neq 91 .num (.slot 19) (.const (.int .i64 (.ofNat 0))))]
def r54_7 : List XLine := [xM 21 8,
  xM 4 21]
def r54_8 : List XLine := [xL 22 (.bin .add 3 .num (.slot 12) (.const (.int .i64 (.ofNat 1)))),
  xM 12 22]
def r54_9 : List XLine := [xL 4 (.mv (.const (.int .i64 (.ofNat 0))))]
def xf54 : XFunc := ⟨(.seq (.region false r54_0)
  (.seq (.region false r54_1)
  (.seq (.seq (.region false r54_2)
  (.block 0 (.loop (.seq (.region false r54_3)
  (.seq (.cond (.slot 13)
  .skip
  (.exit 0))
  (.seq (.block 1 (.seq (.region false r54_4)
  (.seq (.region false r54_5)
  (.seq (.region false r54_6)
  (.cond (.slot 20)
  (.seq (.region false r54_7)
  .ret)
  .skip)))))
  (.region false r54_8)))))))
  (.seq (.region false r54_9)
  .ret)))),
  [.tmp 4]⟩
theorem xf54_ok : compFunc Try.prog Try.f54 = some xf54 := by kernel_rfl
def r55_0 : List XLine := [xL 6 (.mv (.const (.int .i64 (.ofNat 0))))]
def r55_1 : List XLine := [xL 17 (.mkmap .i64),
  xM 7 17]
def r55_2 : List XLine := [xL 8 (.mv (.const (.int .i64 (.ofNat 0))))]
def r55_3 : List XLine := [xM 18 2,
  xL 19 (.len .slice (.slot 18)),
  xL 20 (.bin .gtr 3 .num (.slot 19) (.const (.int .i64 (.ofNat 0))))]
def r55_4 : List XLine := [xM 21 2,
  xL 22 (.iaddr 1 (.slot 21) (.const (.int .i64 (.ofNat 0)))),
  xL 23 (.load false 1 (.slot 22)),
  xL 24 (.un .neg (.slot 23)),
  xM 9 24]
def r55_5 : List XLine := [xM 26 2,
  xL 27 (.slc 1 (.slot 26) (some (.const (.int .i64 (.ofNat 1)))) none none),
  xL 28 (.call (.const (.func 53 [] [])) [(.slot 27)]),
  xM 25 28,
  xL 29 (.extract (.slot 25) 0),
  xL 30 (.extract (.slot 25) 1),
  xM 10 29,
  xM 11 30]
def r55_6 : List XLine := [xM 32 0,
  xL 33 (.nilCheck (.slot 32)),
  xL 34 (.faddr 0 (.slot 33)),
  xL 35 (.load false 1 (.slot 34)),
  xM 36 9,
  xL 37 (.lookup .i64 .nilp (.slot 35) (.slot 36) true),
  xM 31 37,
  xL 38 (.extract (.slot 31) 0),
  xL 39 (.extract (.slot 31) 1),
  xM 12 38,
  xM 13 39]
def r55_7 : List XLine := [xM 40 13,
  xL 41 (.un .not (.slot 40)),
  xM 42 41,
  ⟨⟨.mv (.slot 12), some 43, some (42, false)⟩, []⟩,
  ⟨⟨.nilCheck (.slot 43), some 44, some (42, false)⟩, []⟩,
  ⟨⟨.faddr 1 (.slot 44), some 45, some (42, false)⟩, []⟩,
  ⟨⟨.load false 1 (.slot 45), some 46, some (42, false)⟩, []⟩,
  ⟨⟨.mv (.slot 1), some 47, some (42, false)⟩, []⟩,
  ⟨⟨.un .neg (.slot 47), some 48, some (42, false)⟩, []⟩,
  ⟨⟨.call (.const (.func 74 [] [])) [(.slot 46), (.slot 48)], some 49, some (42, false)⟩, []⟩,
  ⟨⟨.un .not (.slot 49), some 50, some (42, false)⟩, []⟩,
  xL 51 (.pick (.slot 42) (.const (.bool true)) (.slot 50)),
  xM 52 51,
  ⟨⟨.mv (.slot 9), some 53, some (52, false)⟩, []⟩,
  ⟨⟨.mv (.slot 8), some 54, some (52, false)⟩, []⟩,
  ⟨⟨.bin .leq 2 .num (.slot 53) (.slot 54), some 55, some (52, false)⟩, []⟩,
  xL 56 (.pick (.slot 52) (.const (.bool true)) (.slot 55))]
def r55_8 : List XLine := [xL 6 (.mv (.const (.int .i64 (.ofNat 60))))]
def r55_9 : List XLine := [xM 57 0,
  xM 58 12,
  xM 59 1,
  xM 60 10,
  xL 61 (.call (.const (.func 75 [] [])) [(.slot 57), (.slot 58), (.slot 59), (.slot 60)]),
  xM 14 61]
def r55_10 : List XLine := [xM 62 14,
  xL 63 (.bin .neq 28 .num (.slot 62) (.const (.int .i64 (.ofNat 0))))]
def r55_11 : List XLine := [xM 64 14,
  xM 6 64]
def r55_12 : List XLine := [xM 65 7,
  xM 66 9,
  xM 67 9,
  xM 68 11,
  ⟨⟨.mapup .i64 (.slot 65) (.slot 66) (.const (.bool true)), none, none⟩, []⟩,
  xM 8 67,
  xM 2 68]
def r55_13 : List XLine := [xM 69 0,
  xL 70 (.nilCheck (.slot 69)),
  xL 71 (.faddr 0 (.slot 70)),
  xL 72 (.load false 1 (.slot 71)),
  xL 73 (.range .i64 (.slot 72))]
def r55_14 : List XLine := [xL 74 (.next (.slot 73)),
  xL 75 (.extract (.slot 74) 0)]
def r55_15 : List XLine := [xL 76 (.entry (.slot 73)),
  xL 77 (.extract (.slot 76) 0),
  xL 78 (.extract (.slot 76) 1),
  xM 15 77,
  xM 16 78]
def r55_16 : List XLine := [xM 79 7,
  xM 80 15,
  xL 81 (.lookup .i64 (.bool false) (.slot 79) (.slot 80) false),
  xL 82 (.un .not (.slot 81)),
  xM 83 82,
  ⟨⟨.mv (.slot 16), some 84, some (83, true)⟩, []⟩,
  ⟨⟨.nilCheck (.slot 84), some 85, some (83, true)⟩, []⟩,
  ⟨⟨.faddr 1 (.slot 85), some 86, some (83, true)⟩, []⟩,
  ⟨⟨.load false 1 (.slot 86), some 87, some (83, true)⟩, []⟩,
  ⟨⟨.mv (.slot 1), some 88, some (83, true)⟩, []⟩,
  ⟨⟨.un .neg (.slot 88), some 89, some (83, true)⟩, []⟩,
  ⟨⟨.call (.const (.func 74 [] [])) [(.slot 87), (.slot 89)], some 90, some (83, true)⟩, []⟩,
  xL 91 (.pick (.slot 83) (.slot 90) (.const (.bool false)))]
def r55_17 : List XLine := [xL 6 (.mv (.const (.int .i64 (.ofNat 61))))]
def r55_18 : List XLine := [xL 6 (.mv (.const (.int .i64 (.ofNat 0))))]
def xf55 : XFunc := ⟨(.seq (.region false r55_0)
  (.seq (.region false r55_1)
  (.seq (.region false r55_2)
  (.seq (.block 0 (.loop (.seq (.seq (.region false r55_3)
  (.cond (.slot 20)
  .skip
  (.exit 0)))
  (.block 1 (.seq (.region false r55_4)
  (.seq (.region false r55_5)
  (.seq (.region false r55_6)
  (.seq (.seq (.region false r55_7)
  (.cond (.slot 56)
  (.seq (.region false r55_8)
  .ret)
  .skip))
  (.seq (.seq (.region false r55_9)
  (.seq (.region false r55_10)
  (.cond (.slot 63)
  (.seq (.region false r55_11)
  .ret)
  .skip)))
  (.region false r55_12))))))))))
  (.seq (.seq (.region false r55_13)
  (.block 2 (.loop (.seq (.region false r55_14)
  (.seq (.cond (.slot 75)
  .skip
  (.exit 2))
  (.block 3 (.seq (.region false r55_15)
  (.seq (.region false r55_16)
  (.cond (.slot 91)
  (.seq (.region false r55_17)
  .ret)
  .skip)))))))))
  (.seq (.region false r55_18)
  .ret)))))),
  [.tmp 6]⟩
theorem xf55_ok : compFunc Try.prog Try.f55 = some xf55 := by kernel_rfl
def r59_0 : List XLine := [xL 2 (.mv (.const (.bool false)))]
def r59_1 : List XLine := [xM 3 0,
  xL 4 (.bin .neq 57 .num (.slot 3) (.const (.int .i32 (.ofNat 0)))),
  xM 5 4,
  ⟨⟨.mv (.slot 0), some 6, some (5, true)⟩, []⟩,
  ⟨⟨.bin .geq 57 .num (.slot 6) (.const (.int .i32 (.negSucc 1048575))), some 7, some (5, true)⟩, []⟩,
  xL 8 (.pick (.slot 5) (.slot 7) (.const (.bool false))),
  xM 9 8,
  ⟨⟨.mv (.slot 0), some 10, some (9, true)⟩, []⟩,
  ⟨⟨.bin .leq 57 .num (.slot 10) (.const (.int .i32 (.ofNat 1048576))), some 11, some (9, true)⟩, []⟩,
  xL 12 (.pick (.slot 9) (.slot 11) (.const (.bool false))),
  xM 2 12]
def xf59 : XFunc := ⟨(.seq (.region false r59_0)
  (.seq (.region false r59_1)
  .ret)),
  [.tmp 2]⟩
theorem xf59_ok : compFunc Try.prog Try.f59 = some xf59 := by kernel_rfl
def r61_0 : List XLine := [xL 2 (.mv (.const (.bool false)))]
def r61_1 : List XLine := [xM 6 0,
  xL 7 (.call (.const (.func 79 [] [])) [(.slot 6)]),
  xM 5 7,
  xL 8 (.extract (.slot 5) 0),
  xL 9 (.extract (.slot 5) 1),
  xM 3 8,
  xM 4 9]
def r61_2 : List XLine := [xM 10 4,
  xM 2 10]
def xf61 : XFunc := ⟨(.seq (.region false r61_0)
  (.seq (.region false r61_1)
  (.seq (.region false r61_2)
  .ret))),
  [.tmp 2]⟩
theorem xf61_ok : compFunc Try.prog Try.f61 = some xf61 := by kernel_rfl
def r62_0 : List XLine := [xL 2 (.mv (.const (.int .i64 (.ofNat 0))))]
def r62_1 : List XLine := [xL 3 (.mv (.const (.int .i64 (.ofNat 0))))]
def r62_2 : List XLine := [xM 4 3,
  xM 5 0,
  xL 6 (.len .slice (.slot 5)),
  xL 7 (.bin .lss 3 .num (.slot 4) (.slot 6)),
  xM 8 7,
  ⟨⟨.mv (.slot 0), some 9, some (8, true)⟩, []⟩,
  ⟨⟨.mv (.slot 3), some 10, some (8, true)⟩, []⟩,
  ⟨⟨.iaddr 1 (.slot 9) (.slot 10), some 11, some (8, true)⟩, []⟩,
  ⟨⟨.load false 1 (.slot 11), some 12, some (8, true)⟩, []⟩,
  ⟨⟨.bin .gtr 2 .num (.slot 12) (.const (.int .i64 (.ofNat 0))), some 13, some (8, true)⟩, []⟩,
  xL 14 (.pick (.slot 8) (.slot 13) (.const (.bool false)))]
def r62_3 : List XLine := [xM 15 3,
  xL 16 (.bin .add 3 .num (.slot 15) (.const (.int .i64 (.ofNat 1)))),
  xM 3 16]
def r62_4 : List XLine := [xM 17 3,
  xM 2 17]
def xf62 : XFunc := ⟨(.seq (.region false r62_0)
  (.seq (.region false r62_1)
  (.seq (.block 0 (.loop (.seq (.seq (.region false r62_2)
  (.cond (.slot 14)
  .skip
  (.exit 0)))
  (.block 1 (.region false r62_3)))))
  (.seq (.region false r62_4)
  .ret)))),
  [.tmp 2]⟩
theorem xf62_ok : compFunc Try.prog Try.f62 = some xf62 := by kernel_rfl
def r65_0 : List XLine := [xL 2 (.mv (.const (.int .i64 (.ofNat 0))))]
def r65_1 : List XLine := [xM 3 0,
  xL 4 (.bin .lss 105 .num (.slot 3) (.const (.int .i32 (.ofNat 0))))]
def r65_2 : List XLine := [xM 5 0,
  xL 6 (.conv .i64 (.slot 5)),
  xL 7 (.un .neg (.slot 6)),
  xM 2 7]
def r65_3 : List XLine := [xM 8 0,
  xL 9 (.conv .i64 (.slot 8)),
  xM 2 9]
def xf65 : XFunc := ⟨(.seq (.region false r65_0)
  (.seq (.seq (.region false r65_1)
  (.cond (.slot 4)
  (.seq (.region false r65_2)
  .ret)
  .skip))
  (.seq (.region false r65_3)
  .ret))),
  [.tmp 2]⟩
theorem xf65_ok : compFunc Try.prog Try.f65 = some xf65 := by kernel_rfl
def r66_0 : List XLine := [xM 5 0,
  xL 6 (.len .slice (.slot 5)),
  xM 4 6]
def r66_1 : List XLine := [xM 7 0,
  xM 8 4,
  xM 9 4,
  xL 10 (.conv .u64 (.slot 9)),
  xL 11 (.call (.const (.func 78 [] [])) [(.slot 10)]),
  xM 12 1,
  xL 13 (.call (.const (.func 81 [] [])) [(.slot 7), (.const (.int .i64 (.ofNat 0))), (.slot 8), (.slot 11), (.slot 12)])]
def xf66 : XFunc := ⟨(.seq (.region false r66_0)
  (.region false r66_1)),
  []⟩
theorem xf66_ok : compFunc Try.prog Try.f66 = some xf66 := by kernel_rfl
def r67_0 : List XLine := [xL 4 (.mv (.const (.int .i64 (.ofNat 0))))]
def r67_1 : List XLine := [xM 5 0,
  xL 6 (.call (.const (.func 47 [] [])) [(.slot 5)]),
  xM 7 1,
  xL 8 (.call (.const (.func 47 [] [])) [(.slot 7)]),
  xL 9 (.call (.const (.func 83 [] [])) [(.slot 6), (.slot 8)]),
  xM 10 0,
  xM 11 1,
  xL 12 (.call (.const (.func 84 [] [])) [(.slot 10), (.slot 11)]),
  xL 13 (.bslice 1 [(.int .i64 (.ofNat 0)), (.int .i64 (.ofNat 0))] [(0, 1, (.slot 9)), (1, 1, (.slot 12))] 2),
  xL 14 (.call (.const (.func 82 [] [])) [(.slot 13)]),
  xM 4 14]
def xf67 : XFunc := ⟨(.seq (.region false r67_0)
  (.seq (.region false r67_1)
  .ret)),
  [.tmp 4]⟩
theorem xf67_ok : compFunc Try.prog Try.f67 = some xf67 := by kernel_rfl
def r68_0 : List XLine := [xL 2 (.mv (.const .nils))]
def r68_1 : List XLine := [xM 6 0,
  xL 7 (.len .slice (.slot 6)),
  xL 8 (.bin .lss 3 .num (.slot 7) (.const (.int .i64 (.ofNat 2))))]
def r68_2 : List XLine := [xM 9 0,
  xM 2 9]
def r68_3 : List XLine := [xL 3 (.mv (.const (.int .i64 (.ofNat 1))))]
def r68_4 : List XLine := [xM 10 3,
  xM 11 0,
  xL 12 (.len .slice (.slot 11)),
  xL 13 (.bin .lss 3 .num (.slot 10) (.slot 12))]
def r68_5 : List XLine := [xM 16 0,
  xM 17 3,
  xL 18 (.iaddr 1 (.slot 16) (.slot 17)),
  xL 19 (.load false 1 (.slot 18)),
  xM 20 0,
  xM 21 3,
  xL 22 (.bin .sub 3 .num (.slot 21) (.const (.int .i64 (.ofNat 1)))),
  xL 23 (.iaddr 1 (.slot 20) (.slot 22)),
  xL 24 (.load false 1 (.slot 23)),
  xL 25 (.bin .eql 57 .num (.slot 19) (.slot 24))]
def r68_6 : List XLine := [xM 26 0,
  xM 27 3,
  xL 28 (.slc 1 (.slot 26) (some (.slot 27)) none none),
  xM 4 28]
def r68_7 : List XLine := [xL 5 (.mv (.const (.int .i64 (.ofNat 1))))]
def r68_8 : List XLine := [xM 29 5,
  xM 30 4,
  xL 31 (.len .slice (.slot 30)),
  xL 32 (.bin .lss 3 .num (.slot 29) (.slot 31))]
def r68_9 : List XLine := [xM 35 4,
  xM 36 5,
  xL 37 (.iaddr 1 (.slot 35) (.slot 36)),
  xL 38 (.load false 1 (.slot 37)),
  xM 39 4,
  xM 40 5,
  xL 41 (.bin .sub 3 .num (.slot 40) (.const (.int .i64 (.ofNat 1)))),
  xL 42 (.iaddr 1 (.slot 39) (.slot 41)),
  xL 43 (.load false 1 (.slot 42)),
  xL 44 (.bin .neq 57 .num (.slot 38) (.slot 43))]
def r68_10 : List XLine := [xM 45 0,
  xM 46 3,
  xM 47 4,
  xM 48 5,
  xL 49 (.iaddr 1 (.slot 47) (.slot 48)),
  xL 50 (.load false 1 (.slot 49)),
  xL 51 (.iaddr 1 (.slot 45) (.slot 46)),
  ⟨⟨.store 1 (.slot 51) (.slot 50), none, none⟩, []⟩]
def r68_11 : List XLine := [xM 52 3,
  xL 53 (.bin .add 3 .num (.slot 52) (.const (.int .i64 (.ofNat 1)))),
  xM 3 53]
def r68_12 : List XLine := [xM 33 5,
  xL 34 (.bin .add 3 .num (.slot 33) (.const (.int .i64 (.ofNat 1)))),
  xM 5 34]
def r68_13 : List XLine := [xM 54 0,
  xM 55 3,
  xL 56 (.slc 1 (.slot 54) (some (.slot 55)) none none),
  ⟨⟨.clear [(.int .i32 (.ofNat 0))] (.slot 56), none, none⟩, []⟩]
def r68_14 : List XLine := [xM 57 0,
  xM 58 3,
  xL 59 (.slc 1 (.slot 57) none (some (.slot 58)) none),
  xM 2 59]
def r68_15 : List XLine := [xM 14 3,
  xL 15 (.bin .add 3 .num (.slot 14) (.const (.int .i64 (.ofNat 1)))),
  xM 3 15]
def r68_16 : List XLine := [xM 60 0,
  xM 2 60]
def xf68 : XFunc := ⟨(.seq (.region false r68_0)
  (.seq (.seq (.region false r68_1)
  (.cond (.slot 8)
  (.seq (.region false r68_2)
  .ret)
  .skip))
  (.seq (.seq (.region false r68_3)
  (.block 0 (.loop (.seq (.seq (.region false r68_4)
  (.cond (.slot 13)
  .skip
  (.exit 0)))
  (.seq (.block 1 (.seq (.region true r68_5)
  (.cond (.slot 25)
  (.seq (.region false r68_6)
  (.seq (.seq (.region false r68_7)
  (.block 2 (.loop (.seq (.seq (.region false r68_8)
  (.cond (.slot 32)
  .skip
  (.exit 2)))
  (.seq (.block 3 (.seq (.region true r68_9)
  (.cond (.slot 44)
  (.seq (.region false r68_10)
  (.region false r68_11))
  .skip)))
  (.region false r68_12))))))
  (.seq (.region false r68_13)
  (.seq (.region false r68_14)
  .ret))))
  .skip)))
  (.region false r68_15))))))
  (.seq (.region false r68_16)
  .ret)))),
  [.tmp 2]⟩
theorem xf68_ok : compFunc Try.prog Try.f68 = some xf68 := by kernel_rfl
def r69_0 : List XLine := [xL 2 (.mv (.const .nils))]
def r69_1 : List XLine := [xM 3 0,
  xM 4 0,
  xL 5 (.len .slice (.slot 4)),
  xM 6 0,
  xL 7 (.len .slice (.slot 6)),
  xL 8 (.slc 1 (.slot 3) none (some (.slot 5)) (some (.slot 7))),
  xM 2 8]
def xf69 : XFunc := ⟨(.seq (.region false r69_0)
  (.seq (.region false r69_1)
  .ret)),
  [.tmp 2]⟩
theorem xf69_ok : compFunc Try.prog Try.f69 = some xf69 := by kernel_rfl
def r70_0 : List XLine := [xL 4 (.mv (.const (.int .i64 (.ofNat 0))))]
def r70_1 : List XLine := [xM 6 0,
  xL 7 (.len .slice (.slot 6)),
  xL 8 (.mv (.const (.int .i64 (.ofNat 0))))]
def r70_2 : List XLine := [xL 9 (.bin .lss 3 .num (.slot 8) (.slot 7))]
def r70_3 : List XLine := [xM 10 8,
  xM 5 10]
def r70_4 : List XLine := [xM 11 1,
  xM 12 0,
  xM 13 5,
  xL 14 (.iaddr 1 (.slot 12) (.slot 13)),
  xL 15 (.load false 1 (.slot 14)),
  xL 16 (.call (.slot 11) [(.slot 15)])]
def r70_5 : List XLine := [xM 17 5,
  xM 4 17]
def r70_6 : List XLine := [xL 18 (.bin .add 3 .num (.slot 8) (.const (.int .i64 (.ofNat 1)))),
  xM 8 18]
def r70_7 : List XLine := [xL 4 (.mv (.const (.int .i64 (.negSucc 0))))]
def xf70 : XFunc := ⟨(.seq (.region false r70_0)
  (.seq (.seq (.region false r70_1)
  (.block 0 (.loop (.seq (.region false r70_2)
  (.seq (.cond (.slot 9)
  .skip
  (.exit 0))
  (.seq (.block 1 (.seq (.region false r70_3)
  (.seq (.region false r70_4)
  (.cond (.slot 16)
  (.seq (.region false r70_5)
  .ret)
  .skip))))
  (.region false r70_6)))))))
  (.seq (.region false r70_7)
  .ret))),
  [.tmp 4]⟩
theorem xf70_ok : compFunc Try.prog Try.f70 = some xf70 := by kernel_rfl
def r71_0 : List XLine := [xL 2 (.mv (.const (.bool false)))]
def r71_1 : List XLine := [xM 3 0,
  xL 4 (.bin .lss 2 .num (.slot 3) (.const (.int .i64 (.ofNat 0)))),
  xM 2 4]
def xf71 : XFunc := ⟨(.seq (.region false r71_0)
  (.seq (.region false r71_1)
  .ret)),
  [.tmp 2]⟩
theorem xf71_ok : compFunc Try.prog Try.f71 = some xf71 := by kernel_rfl
def r72_0 : List XLine := [xL 3 (.mv (.const (.int .i64 (.ofNat 0))))]
def r72_1 : List XLine := [xL 11 (.load false 1 (.slot 1)),
  xL 12 (.nilCheck (.slot 11)),
  xL 13 (.faddr 0 (.slot 12)),
  xL 14 (.load false 1 (.slot 13)),
  xM 15 0,
  xL 16 (.lookup .i64 .nilp (.slot 14) (.slot 15) true),
  xM 10 16,
  xL 17 (.extract (.slot 10) 0),
  xL 18 (.extract (.slot 10) 1),
  xM 4 17,
  xM 5 18]
def r72_2 : List XLine := [xM 19 5,
  xL 20 (.un .not (.slot 19))]
def r72_3 : List XLine := [xL 3 (.mv (.const (.int .i64 (.ofNat 2))))]
def r72_4 : List XLine := [xL 6 (.mv (.const (.int .i32 (.ofNat 0))))]
def r72_5 : List XLine := [xM 21 4,
  xL 22 (.nilCheck (.slot 21)),
  xL 23 (.faddr 1 (.slot 22)),
  xL 24 (.load false 1 (.slot 23)),
  xL 25 (.len .slice (.slot 24)),
  xL 26 (.mv (.const (.int .i64 (.ofNat 0))))]
def r72_6 : List XLine := [xL 27 (.bin .lss 3 .num (.slot 26) (.slot 25))]
def r72_7 : List XLine := [xL 28 (.iaddr 1 (.slot 24) (.slot 26)),
  xL 29 (.load false 1 (.slot 28)),
  xM 8 29]
def r72_8 : List XLine := [xL 30 (.load false 1 (.slot 1)),
  xM 31 8,
  xL 32 (.call (.const (.func 73 [] [])) [(.slot 30), (.slot 31)]),
  xM 9 32]
def r72_9 : List XLine := [xM 34 9,
  xL 35 (.bin .eql 110 .num (.slot 34) (.const (.int .i8 (.ofNat 1)))),
  xM 33 35]
def r72_10 : List XLine := [xM 36 9,
  xL 37 (.bin .eql 110 .num (.slot 36) (.const (.int .i8 (.ofNat 0)))),
  xM 38 37,
  ⟨⟨.mv (.slot 6), some 39, some (38, true)⟩, []⟩,
  ⟨⟨.bin .neq 57 .num (.slot 39) (.const (.int .i32 (.ofNat 0))), some 40, some (38, true)⟩, []⟩,
  xL 41 (.pick (.slot 38) (.slot 40) (.const (.bool false))),
  xM 33 41]
def r72_11 : List XLine := [xL 3 (.mv (.const (.int .i64 (.ofNat 2))))]
def r72_12 : List XLine := [xM 43 9,
  xL 44 (.bin .eql 110 .num (.slot 43) (.const (.int .i8 (.ofNat 0)))),
  xM 42 44]
def r72_13 : List XLine := [xM 45 8,
  xM 6 45]
def r72_14 : List XLine := [xL 46 (.bin .add 3 .num (.slot 26) (.const (.int .i64 (.ofNat 1)))),
  xM 26 46]
def r72_15 : List XLine := [xM 47 6,
  xL 48 (.bin .eql 57 .num (.slot 47) (.const (.int .i32 (.ofNat 0))))]
def r72_16 : List XLine := [xL 3 (.mv (.const (.int .i64 (.ofNat 1))))]
def r72_17 : List XLine := [xL 49 (.load false 1 (.slot 1)),
  xM 50 6,
  xL 51 (.call (.const (.func 52 [] [])) [(.slot 49), (.slot 50)])]
def r72_18 : List XLine := [xL 3 (.mv (.const (.int .i64 (.ofNat 0))))]
def xf72 : XFunc := ⟨(.seq (.region false r72_0)
  (.seq (.region false r72_1)
  (.seq (.seq (.region false r72_2)
  (.cond (.slot 20)
  (.seq (.region false r72_3)
  .ret)
  .skip))
  (.seq (.region false r72_4)
  (.seq (.seq (.region false r72_5)
  (.block 0 (.loop (.seq (.region false r72_6)
  (.seq (.cond (.slot 27)
  .skip
  (.exit 0))
  (.seq (.block 1 (.seq (.region false r72_7)
  (.seq (.region false r72_8)
  (.block 2 (.seq (.seq (.region false r72_9)
  (.cond (.slot 33)
  .skip
  (.region false r72_10)))
  (.cond (.slot 33)
  (.seq (.region false r72_11)
  .ret)
  (.seq (.region false r72_12)
  (.cond (.slot 42)
  (.region false r72_13)
  .skip))))))))
  (.region false r72_14)))))))
  (.seq (.seq (.region false r72_15)
  (.cond (.slot 48)
  (.seq (.region false r72_16)
  .ret)
  .skip))
  (.seq (.region false r72_17)
  (.seq (.region false r72_18)
  .ret)))))))),
  [.tmp 3]⟩
theorem xf72_ok : compFunc Try.prog Try.f72 = some xf72 := by kernel_rfl
def r73_0 : List XLine := [xL 4 (.mv (.const (.int .i8 (.ofNat 0))))]
def r73_1 : List XLine := [xM 6 1,
  xL 7 (.call (.const (.func 47 [] [])) [(.slot 6)]),
  xM 5 7]
def r73_2 : List XLine := [xM 8 5,
  xM 9 0,
  xL 10 (.nilCheck (.slot 9)),
  xL 11 (.faddr 4 (.slot 10)),
  xL 12 (.load false 1 (.slot 11)),
  xL 13 (.len .slice (.slot 12)),
  xL 14 (.bin .geq 3 .num (.slot 8) (.slot 13))]
def r73_3 : List XLine := [xL 4 (.mv (.const (.int .i8 (.ofNat 0))))]
def r73_4 : List XLine := [xM 15 1,
  xL 16 (.bin .lss 57 .num (.slot 15) (.const (.int .i32 (.ofNat 0))))]
def r73_5 : List XLine := [xM 17 0,
  xL 18 (.nilCheck (.slot 17)),
  xL 19 (.faddr 4 (.slot 18)),
  xL 20 (.load false 1 (.slot 19)),
  xM 21 5,
  xL 22 (.iaddr 1 (.slot 20) (.slot 21)),
  xL 23 (.load false 1 (.slot 22)),
  xL 24 (.un .neg (.slot 23)),
  xM 4 24]
def r73_6 : List XLine := [xM 25 0,
  xL 26 (.nilCheck (.slot 25)),
  xL 27 (.faddr 4 (.slot 26)),
  xL 28 (.load false 1 (.slot 27)),
  xM 29 5,
  xL 30 (.iaddr 1 (.slot 28) (.slot 29)),
  xL 31 (.load false 1 (.slot 30)),
  xM 4 31]
def xf73 : XFunc := ⟨(.seq (.region false r73_0)
  (.seq (.region false r73_1)
  (.seq (.seq (.region false r73_2)
  (.cond (.slot 14)
  (.seq (.region false r73_3)
  .ret)
  .skip))
  (.seq (.seq (.region false r73_4)
  (.cond (.slot 16)
  (.seq (.region false r73_5)
  .ret)
  .skip))
  (.seq (.region false r73_6)
  .ret))))),
  [.tmp 4]⟩
theorem xf73_ok : compFunc Try.prog Try.f73 = some xf73 := by kernel_rfl
def r74_0 : List XLine := [xL 4 (.mv (.const (.bool false)))]
def r74_1 : List XLine := [xM 5 0,
  xM 6 1,
  xL 7 (.call (.const (.func 85 [] [])) [(.slot 5), (.slot 6)]),
  xL 8 (.bin .geq 3 .num (.slot 7) (.const (.int .i64 (.ofNat 0)))),
  xM 4 8]
def xf74 : XFunc := ⟨(.seq (.region false r74_0)
  (.seq (.region false r74_1)
  .ret)),
  [.tmp 4]⟩
theorem xf74_ok : compFunc Try.prog Try.f74 = some xf74 := by kernel_rfl
def r75_0 : List XLine := [xL 4 (.box (.slot 0)),
  xL 8 (.mv (.const (.int .i64 (.ofNat 0))))]
def r75_1 : List XLine := [xL 14 (.load false 1 (.slot 4)),
  xL 15 (.nilCheck (.slot 14)),
  xL 16 (.faddr 5 (.slot 15)),
  xL 17 (.load false 1 (.slot 16)),
  xL 18 (.len .slice (.slot 17)),
  xL 9 (.alloc [(.int .i64 (.ofNat 0))]),
  ⟨⟨.store 1 (.slot 9) (.slot 18), none, none⟩, []⟩]
def r75_2 : List XLine := [xL 19 (.mkfunc 86 [] [(.slot 4), (.slot 9)]),
  ⟨⟨.defer (.slot 19) [], none, none⟩, []⟩]
def r75_3 : List XLine := [xM 20 1,
  xL 21 (.nilCheck (.slot 20)),
  xL 22 (.faddr 1 (.slot 21)),
  xL 23 (.load false 1 (.slot 22)),
  xL 24 (.len .slice (.slot 23)),
  xL 25 (.mv (.const (.int .i64 (.ofNat 0))))]
def r75_4 : List XLine := [xL 26 (.bin .lss 3 .num (.slot 25) (.slot 24))]
def r75_5 : List XLine := [xL 27 (.iaddr 1 (.slot 23) (.slot 25)),
  xL 28 (.load false 1 (.slot 27)),
  xM 11 28]
def r75_6 : List XLine := [xM 29 11,
  xM 30 2,
  xL 31 (.un .neg (.slot 30)),
  xL 32 (.bin .neq 57 .num (.slot 29) (.slot 31)),
  xM 33 32,
  ⟨⟨.load false 1 (.slot 4), some 34, some (33, true)⟩, []⟩,
  ⟨⟨.mv (.slot 11), some 35, some (33, true)⟩, []⟩,
  ⟨⟨.call (.const (.func 73 [] [])) [(.slot 34), (.slot 35)], some 36, some (33, true)⟩, []⟩,
  ⟨⟨.bin .eql 110 .num (.slot 36) (.const (.int .i8 (.ofNat 1))), some 37, some (33, true)⟩, []⟩,
  ⟨⟨.mv (.slot 37), some 38, some (33, true)⟩, []⟩,
  ⟨⟨.mv (.slot 1), some 39, some (38, false)⟩, []⟩,
  ⟨⟨.nilCheck (.slot 39), some 40, some (38, false)⟩, []⟩,
  ⟨⟨.faddr 2 (.slot 40), some 41, some (38, false)⟩, []⟩,
  ⟨⟨.load false 1 (.slot 41), some 42, some (38, false)⟩, []⟩,
  ⟨⟨.mv (.slot 42), some 43, some (38, false)⟩, []⟩,
  ⟨⟨.mv (.slot 1), some 44, some (43, true)⟩, []⟩,
  ⟨⟨.nilCheck (.slot 44), some 45, some (43, true)⟩, []⟩,
  ⟨⟨.faddr 1 (.slot 45), some 46, some (43, true)⟩, []⟩,
  ⟨⟨.load false 1 (.slot 46), some 47, some (43, true)⟩, []⟩,
  ⟨⟨.mv (.slot 11), some 48, some (43, true)⟩, []⟩,
  ⟨⟨.un .neg (.slot 48), some 49, some (43, true)⟩, []⟩,
  ⟨⟨.call (.const (.func 74 [] [])) [(.slot 47), (.slot 49)], some 50, some (43, true)⟩, []⟩,
  ⟨⟨.pick (.slot 43) (.slot 50) (.const (.bool false)), some 51, some (38, false)⟩, []⟩,
  ⟨⟨.pick (.slot 38) (.const (.bool true)) (.slot 51), some 52, some (33, true)⟩, []⟩,
  xL 53 (.pick (.slot 33) (.slot 52) (.const (.bool false)))]
def r75_7 : List XLine := [xL 8 (.mv (.const (.int .i64 (.ofNat 0))))]
def r75_8 : List XLine := [xL 54 (.bin .add 3 .num (.slot 25) (.const (.int .i64 (.ofNat 1)))),
  xM 25 54]
def r75_9 : List XLine := [xM 55 1,
  xL 56 (.nilCheck (.slot 55)),
  xL 57 (.faddr 1 (.slot 56)),
  xL 58 (.load false 1 (.slot 57)),
  xL 59 (.len .slice (.slot 58)),
  xL 60 (.mv (.const (.int .i64 (.ofNat 0))))]
def r75_10 : List XLine := [xL 61 (.bin .lss 3 .num (.slot 60) (.slot 59))]
def r75_11 : List XLine := [xL 62 (.iaddr 1 (.slot 58) (.slot 60)),
  xL 63 (.load false 1 (.slot 62)),
  xM 13 63]
def r75_12 : List XLine := [xM 64 13,
  xM 65 2,
  xL 66 (.un .neg (.slot 65)),
  xL 67 (.bin .neq 57 .num (.slot 64) (.slot 66)),
  xM 68 67,
  ⟨⟨.load false 1 (.slot 4), some 69, some (68, true)⟩, []⟩,
  ⟨⟨.mv (.slot 13), some 70, some (68, true)⟩, []⟩,
  ⟨⟨.call (.const (.func 73 [] [])) [(.slot 69), (.slot 70)], some 71, some (68, true)⟩, []⟩,
  ⟨⟨.bin .eql 110 .num (.slot 71) (.const (.int .i8 (.ofNat 0))), some 72, some (68, true)⟩, []⟩,
  xL 73 (.pick (.slot 68) (.slot 72) (.const (.bool false)))]
def r75_13 : List XLine := [xL 74 (.load false 1 (.slot 4)),
  xM 75 13,
  xL 76 (.un .neg (.slot 75)),
  xL 77 (.call (.const (.func 52 [] [])) [(.slot 74), (.slot 76)])]
def r75_14 : List XLine := [xL 78 (.bin .add 3 .num (.slot 60) (.const (.int .i64 (.ofNat 1)))),
  xM 60 78]
def r75_15 : List XLine := [xL 79 (.load false 1 (.slot 4)),
  xM 80 3,
  xL 81 (.call (.const (.func 54 [] [])) [(.slot 79), (.slot 80)])]
def r75_16 : List XLine := [xL 83 (.bin .eql 91 .num (.slot 81) (.const (.int .i64 (.ofNat 2)))),
  xM 82 83]
def r75_17 : List XLine := [xL 8 (.mv (.const (.int .i64 (.ofNat 60))))]
def r75_18 : List XLine := [xL 85 (.bin .eql 91 .num (.slot 81) (.const (.int .i64 (.ofNat 0)))),
  xM 84 85]
def r75_19 : List XLine := [xL 8 (.mv (.const (.int .i64 (.ofNat 61))))]
def r75_20 : List XLine := [xL 8 (.mv (.const (.int .i64 (.ofNat 0))))]
def xf75 : XFunc := ⟨(.seq (.region false r75_0)
  (.seq (.region false r75_1)
  (.seq (.region false r75_2)
  (.seq (.seq (.region false r75_3)
  (.block 0 (.loop (.seq (.region false r75_4)
  (.seq (.cond (.slot 26)
  .skip
  (.exit 0))
  (.seq (.block 1 (.seq (.region false r75_5)
  (.seq (.region false r75_6)
  (.cond (.slot 53)
  (.seq (.region false r75_7)
  .ret)
  .skip))))
  (.region false r75_8)))))))
  (.seq (.seq (.region false r75_9)
  (.block 2 (.loop (.seq (.region false r75_10)
  (.seq (.cond (.slot 61)
  .skip
  (.exit 2))
  (.seq (.block 3 (.seq (.region false r75_11)
  (.seq (.region false r75_12)
  (.cond (.slot 73)
  (.region false r75_13)
  .skip))))
  (.region false r75_14)))))))
  (.seq (.seq (.region false r75_15)
  (.block 4 (.seq (.region false r75_16)
  (.cond (.slot 82)
  (.seq (.region false r75_17)
  .ret)
  (.seq (.region false r75_18)
  (.cond (.slot 84)
  (.seq (.region false r75_19)
  .ret)
  .skip))))))
  (.seq (.region false r75_20)
  .ret))))))),
  [.tmp 8]⟩
theorem xf75_ok : compFunc Try.prog Try.f75 = some xf75 := by kernel_rfl
def r79_0 : List XLine := [xL 2 (.mv (.const .nils)),
  xL 3 (.mv (.const (.bool false)))]
def r79_1 : List XLine := [xL 4 (.mv (.const .nils))]
def r79_2 : List XLine := [xL 5 (.mv (.const (.bool false)))]
def r79_3 : List XLine := [xL 6 (.mv (.const (.int .i64 (.ofNat 0))))]
def r79_4 : List XLine := [xM 9 6,
  xM 10 0,
  xL 11 (.len .slice (.slot 10)),
  xL 12 (.bin .lss 3 .num (.slot 9) (.slot 11))]
def r79_5 : List XLine := [xM 15 4,
  xM 16 0,
  xM 17 6,
  xL 18 (.iaddr 1 (.slot 16) (.slot 17)),
  xL 19 (.load false 1 (.slot 18)),
  xL 20 (.call (.const (.func 37 [] [])) [(.slot 15), (.slot 19)])]
def r79_6 : List XLine := [xM 21 5,
  xM 22 21,
  ⟨⟨.mv (.slot 0), some 23, some (22, false)⟩, []⟩,
  ⟨⟨.mv (.slot 6), some 24, some (22, false)⟩, []⟩,
  ⟨⟨.iaddr 1 (.slot 23) (.slot 24), some 25, some (22, false)⟩, []⟩,
  ⟨⟨.load false 1 (.slot 25), some 26, some (22, false)⟩, []⟩,
  ⟨⟨.bin .gtr 57 .num (.slot 26) (.const (.int .i32 (.ofNat 0))), some 27, some (22, false)⟩, []⟩,
  ⟨⟨.mv (.slot 27), some 28, some (22, false)⟩, []⟩,
  ⟨⟨.mv (.slot 0), some 29, some (28, true)⟩, []⟩,
  ⟨⟨.mv (.slot 0), some 30, some (28, true)⟩, []⟩,
  ⟨⟨.mv (.slot 6), some 31, some (28, true)⟩, []⟩,
  ⟨⟨.iaddr 1 (.slot 30) (.slot 31), some 32, some (28, true)⟩, []⟩,
  ⟨⟨.load false 1 (.slot 32), some 33, some (28, true)⟩, []⟩,
  ⟨⟨.un .neg (.slot 33), some 34, some (28, true)⟩, []⟩,
  ⟨⟨.call (.const (.func 37 [] [])) [(.slot 29), (.slot 34)], some 35, some (28, true)⟩, []⟩,
  ⟨⟨.pick (.slot 28) (.slot 35) (.const (.bool false)), some 36, some (22, false)⟩, []⟩,
  xL 37 (.pick (.slot 22) (.const (.bool true)) (.slot 36)),
  xM 5 37]
def r79_7 : List XLine := [xL 7 (.mv (.const (.int .i64 (.ofNat 0))))]
def r79_8 : List XLine := [xM 38 7,
  xM 39 4,
  xL 40 (.len .slice (.slot 39)),
  xL 41 (.bin .lss 3 .num (.slot 38) (.slot 40)),
  xM 42 41,
  ⟨⟨.mv (.slot 4), some 43, some (42, true)⟩, []⟩,
  ⟨⟨.mv (.slot 7), some 44, some (42, true)⟩, []⟩,
  ⟨⟨.iaddr 1 (.slot 43) (.slot 44), some 45, some (42, true)⟩, []⟩,
  ⟨⟨.load false 1 (.slot 45), some 46, some (42, true)⟩, []⟩,
  ⟨⟨.mv (.slot 0), some 47, some (42, true)⟩, []⟩,
  ⟨⟨.mv (.slot 6), some 48, some (42, true)⟩, []⟩,
  ⟨⟨.iaddr 1 (.slot 47) (.slot 48), some 49, some (42, true)⟩, []⟩,
  ⟨⟨.load false 1 (.slot 49), some 50, some (42, true)⟩, []⟩,
  ⟨⟨.call (.const (.func 98 [] [])) [(.slot 46), (.slot 50)], some 51, some (42, true)⟩, []⟩,
  xL 52 (.pick (.slot 42) (.slot 51) (.const (.bool false)))]
def r79_9 : List XLine := [xM 53 7,
  xL 54 (.bin .add 3 .num (.slot 53) (.const (.int .i64 (.ofNat 1)))),
  xM 7 54]
def r79_10 : List XLine := [xL 8 (.mv (.const .nils))]
def r79_11 : List XLine := [xM 55 8,
  xM 56 4,
  xM 57 7,
  xL 58 (.slc 1 (.slot 56) none (some (.slot 57)) none),
  xL 59 (.append 1 4 (.slot 55) (.slot 58)),
  xM 8 59]
def r79_12 : List XLine := [xM 60 8,
  xM 61 0,
  xM 62 6,
  xL 63 (.iaddr 1 (.slot 61) (.slot 62)),
  xL 64 (.load false 1 (.slot 63)),
  xL 65 (.bslice 1 [(.int .i32 (.ofNat 0))] [(0, 1, (.slot 64))] 1),
  xL 66 (.append 1 4 (.slot 60) (.slot 65)),
  xM 8 66]
def r79_13 : List XLine := [xM 67 8,
  xM 68 4,
  xM 69 7,
  xL 70 (.slc 1 (.slot 68) (some (.slot 69)) none none),
  xL 71 (.append 1 4 (.slot 67) (.slot 70)),
  xM 8 71]
def r79_14 : List XLine := [xM 72 8,
  xM 4 72]
def r79_15 : List XLine := [xM 13 6,
  xL 14 (.bin .add 3 .num (.slot 13) (.const (.int .i64 (.ofNat 1)))),
  xM 6 14]
def r79_16 : List XLine := [xM 73 4,
  xM 74 5,
  xM 2 73,
  xM 3 74]
def xf79 : XFunc := ⟨(.seq (.region false r79_0)
  (.seq (.region false r79_1)
  (.seq (.region false r79_2)
  (.seq (.seq (.region false r79_3)
  (.block 0 (.loop (.seq (.seq (.region false r79_4)
  (.cond (.slot 12)
  .skip
  (.exit 0)))
  (.seq (.block 1 (.seq (.seq (.region false r79_5)
  (.cond (.slot 20)
  (.exit 1)
  .skip))
  (.seq (.region false r79_6)
  (.seq (.region false r79_7)
  (.seq (.block 2 (.loop (.seq (.seq (.region true r79_8)
  (.cond (.slot 52)
  .skip
  (.exit 2)))
  (.block 3 (.region false r79_9)))))
  (.seq (.region false r79_10)
  (.seq (.region false r79_11)
  (.seq (.region false r79_12)
  (.seq (.region false r79_13)
  (.region false r79_14))))))))))
  (.region false r79_15))))))
  (.seq (.region false r79_16)
  .ret))))),
  [.tmp 2, .tmp 3]⟩
theorem xf79_ok : compFunc Try.prog Try.f79 = some xf79 := by kernel_rfl
end Go.Proofs.Ytmkbnbpblhoekaa

/- The functions of the program in X's code, printed by a program of ours. -/
import Derived.Test.YtmkbnbpblhoekaaProg
import Derived.Test.YtmkbnbpblhoekaaW0
import Derived.KernelRfl
namespace Go.Proofs.Ytmkbnbpblhoekaa
open Go.Xr
def r44_0 : List XLine := [xL 1 (.box (.slot 0)),
  xL 2 (.mv (.const (.bool false)))]
def r44_1 : List XLine := [xL 3 (.mv (.const (.int .i64 (.ofNat 0))))]
def r44_2 : List XLine := [xL 7 (.faddr 0 (.slot 1)),
  xL 8 (.load false 1 (.slot 7))]
def r44_3 : List XLine := [xL 10 (.bin .eql 5 .num (.slot 8) (.const (.int .u8 (.ofNat 1)))),
  xM 9 10]
def r44_4 : List XLine := [xL 3 (.mv (.const (.int .i64 (.ofNat 1))))]
def r44_5 : List XLine := [xL 12 (.bin .eql 5 .num (.slot 8) (.const (.int .u8 (.ofNat 2)))),
  xM 11 12]
def r44_6 : List XLine := [xL 13 (.faddr 2 (.slot 1)),
  xL 14 (.load false 1 (.slot 13)),
  xL 15 (.len .slice (.slot 14)),
  xL 16 (.bin .gtr 3 .num (.slot 15) (.const (.int .i64 (.ofNat 0))))]
def r44_7 : List XLine := [xL 2 (.mv (.const (.bool false)))]
def r44_8 : List XLine := [xL 2 (.mv (.const (.bool false)))]
def r44_9 : List XLine := [xL 17 (.faddr 1 (.slot 1)),
  xL 18 (.load false 1 (.slot 17)),
  xM 19 3,
  xL 20 (.bin .lss 2 .num (.slot 18) (.slot 19)),
  xM 21 20,
  ⟨⟨.faddr 1 (.slot 1), some 22, some (21, false)⟩, []⟩,
  ⟨⟨.load false 1 (.slot 22), some 23, some (21, false)⟩, []⟩,
  ⟨⟨.bin .gtr 2 .num (.slot 23) (.const (.int .i64 (.ofNat 4611686018427387903))), some 24, some (21, false)⟩, []⟩,
  xL 25 (.pick (.slot 21) (.const (.bool true)) (.slot 24))]
def r44_10 : List XLine := [xL 2 (.mv (.const (.bool false)))]
def r44_11 : List XLine := [xL 4 (.mv (.const (.int .i64 (.ofNat 0))))]
def r44_12 : List XLine := [xM 26 4,
  xL 27 (.faddr 2 (.slot 1)),
  xL 28 (.load false 1 (.slot 27)),
  xL 29 (.len .slice (.slot 28)),
  xL 30 (.bin .lss 3 .num (.slot 26) (.slot 29))]
def r44_13 : List XLine := [xL 33 (.faddr 2 (.slot 1)),
  xL 34 (.load false 1 (.slot 33)),
  xM 35 4,
  xL 36 (.iaddr 1 (.slot 34) (.slot 35)),
  xL 37 (.load false 1 (.slot 36)),
  xL 38 (.call (.const (.func 59 [] [])) [(.slot 37)]),
  xL 39 (.un .not (.slot 38))]
def r44_14 : List XLine := [xL 2 (.mv (.const (.bool false)))]
def r44_15 : List XLine := [xM 31 4,
  xL 32 (.bin .add 3 .num (.slot 31) (.const (.int .i64 (.ofNat 1)))),
  xM 4 32]
def r44_16 : List XLine := [xL 5 (.mv (.const (.int .i64 (.ofNat 0))))]
def r44_17 : List XLine := [xM 40 5,
  xL 41 (.faddr 3 (.slot 1)),
  xL 42 (.load false 1 (.slot 41)),
  xL 43 (.len .slice (.slot 42)),
  xL 44 (.bin .lss 3 .num (.slot 40) (.slot 43))]
def r44_18 : List XLine := [xL 47 (.faddr 3 (.slot 1)),
  xL 48 (.load false 1 (.slot 47)),
  xM 49 5,
  xL 50 (.iaddr 1 (.slot 48) (.slot 49)),
  xL 51 (.load false 1 (.slot 50)),
  xM 6 51]
def r44_19 : List XLine := [xM 52 6,
  xL 53 (.bin .eql 2 .num (.slot 52) (.const (.int .i64 (.ofNat 0)))),
  xM 54 53,
  ⟨⟨.mv (.slot 6), some 55, some (54, false)⟩, []⟩,
  ⟨⟨.bin .gtr 2 .num (.slot 55) (.const (.int .i64 (.ofNat 4611686018427387903))), some 56, some (54, false)⟩, []⟩,
  xL 57 (.pick (.slot 54) (.const (.bool true)) (.slot 56)),
  xM 58 57,
  ⟨⟨.mv (.slot 6), some 59, some (58, false)⟩, []⟩,
  ⟨⟨.bin .lss 2 .num (.slot 59) (.const (.int .i64 (.negSucc 4611686018427387902))), some 60, some (58, false)⟩, []⟩,
  xL 61 (.pick (.slot 58) (.const (.bool true)) (.slot 60)),
  xM 62 61,
  ⟨⟨.mv (.slot 6), some 63, some (62, false)⟩, []⟩,
  ⟨⟨.bin .lss 2 .num (.slot 63) (.const (.int .i64 (.ofNat 0))), some 64, some (62, false)⟩, []⟩,
  ⟨⟨.mv (.slot 64), some 65, some (62, false)⟩, []⟩,
  ⟨⟨.faddr 0 (.slot 1), some 66, some (65, true)⟩, []⟩,
  ⟨⟨.load false 1 (.slot 66), some 67, some (65, true)⟩, []⟩,
  ⟨⟨.bin .eql 5 .num (.slot 67) (.const (.int .u8 (.ofNat 2))), some 68, some (65, true)⟩, []⟩,
  ⟨⟨.pick (.slot 65) (.slot 68) (.const (.bool false)), some 69, some (62, false)⟩, []⟩,
  xL 70 (.pick (.slot 62) (.const (.bool true)) (.slot 69))]
def r44_20 : List XLine := [xL 2 (.mv (.const (.bool false)))]
def r44_21 : List XLine := [xM 45 5,
  xL 46 (.bin .add 3 .num (.slot 45) (.const (.int .i64 (.ofNat 1)))),
  xM 5 46]
def r44_22 : List XLine := [xL 2 (.mv (.const (.bool true)))]
def xf44 : XFunc := ⟨(.seq (.region false r44_0)
  (.seq (.region false r44_1)
  (.seq (.seq (.region false r44_2)
  (.block 0 (.seq (.region false r44_3)
  (.cond (.slot 9)
  (.region false r44_4)
  (.seq (.region false r44_5)
  (.cond (.slot 11)
  (.seq (.region false r44_6)
  (.cond (.slot 16)
  (.seq (.region false r44_7)
  .ret)
  .skip))
  (.seq (.region false r44_8)
  .ret)))))))
  (.seq (.seq (.region false r44_9)
  (.cond (.slot 25)
  (.seq (.region false r44_10)
  .ret)
  .skip))
  (.seq (.seq (.region false r44_11)
  (.block 1 (.loop (.seq (.seq (.region false r44_12)
  (.cond (.slot 30)
  .skip
  (.exit 1)))
  (.seq (.block 2 (.seq (.region false r44_13)
  (.cond (.slot 39)
  (.seq (.region false r44_14)
  .ret)
  .skip)))
  (.region false r44_15))))))
  (.seq (.seq (.region false r44_16)
  (.block 3 (.loop (.seq (.seq (.region false r44_17)
  (.cond (.slot 44)
  .skip
  (.exit 3)))
  (.seq (.block 4 (.seq (.region false r44_18)
  (.seq (.region false r44_19)
  (.cond (.slot 70)
  (.seq (.region false r44_20)
  .ret)
  .skip))))
  (.region false r44_21))))))
  (.seq (.region false r44_22)
  .ret))))))),
  [.tmp 2]⟩
theorem xf44_ok : compFunc Try.prog Try.f44 = some xf44 := by kernel_rfl
def r45_0 : List XLine := [xL 4 (.mv (.const (.int .i64 (.ofNat 0))))]
def r45_1 : List XLine := [xL 5 (.mv (.const (.int .i64 (.ofNat 0))))]
def r45_2 : List XLine := [xM 10 5,
  xM 11 1,
  xL 12 (.len .slice (.slot 11)),
  xL 13 (.bin .lss 3 .num (.slot 10) (.slot 12))]
def r45_3 : List XLine := [xM 16 0,
  xM 17 1,
  xM 18 5,
  xL 19 (.iaddr 1 (.slot 17) (.slot 18)),
  xL 20 (.load false 1 (.slot 19)),
  xL 21 (.call (.const (.func 60 [] [])) [(.slot 16), (.slot 20)]),
  xL 22 (.bin .lss 3 .num (.slot 21) (.const (.int .i64 (.ofNat 0))))]
def r45_4 : List XLine := [xL 4 (.mv (.const (.int .i64 (.ofNat 5))))]
def r45_5 : List XLine := [xL 6 (.mv (.const (.int .i64 (.ofNat 0))))]
def r45_6 : List XLine := [xM 23 6,
  xM 24 5,
  xL 25 (.bin .lss 3 .num (.slot 23) (.slot 24))]
def r45_7 : List XLine := [xM 28 1,
  xM 29 6,
  xL 30 (.iaddr 1 (.slot 28) (.slot 29)),
  xL 31 (.load false 1 (.slot 30)),
  xM 32 1,
  xM 33 5,
  xL 34 (.iaddr 1 (.slot 32) (.slot 33)),
  xL 35 (.load false 1 (.slot 34)),
  xL 36 (.bin .eql 2 .num (.slot 31) (.slot 35))]
def r45_8 : List XLine := [xL 4 (.mv (.const (.int .i64 (.ofNat 5))))]
def r45_9 : List XLine := [xM 26 6,
  xL 27 (.bin .add 3 .num (.slot 26) (.const (.int .i64 (.ofNat 1)))),
  xM 6 27]
def r45_10 : List XLine := [xM 14 5,
  xL 15 (.bin .add 3 .num (.slot 14) (.const (.int .i64 (.ofNat 1)))),
  xM 5 15]
def r45_11 : List XLine := [xL 7 (.mv (.const (.int .i64 (.ofNat 0))))]
def r45_12 : List XLine := [xM 37 7,
  xM 38 1,
  xL 39 (.len .slice (.slot 38)),
  xL 40 (.bin .lss 3 .num (.slot 37) (.slot 39))]
def r45_13 : List XLine := [xM 43 0,
  xM 44 1,
  xM 45 7,
  xL 46 (.iaddr 1 (.slot 44) (.slot 45)),
  xL 47 (.load false 1 (.slot 46)),
  xL 48 (.call (.const (.func 60 [] [])) [(.slot 43), (.slot 47)]),
  xM 8 48]
def r45_14 : List XLine := [xM 49 0,
  xM 50 0,
  xL 51 (.nilCheck (.slot 50)),
  xL 52 (.faddr 3 (.slot 51)),
  xL 53 (.load false 1 (.slot 52)),
  xM 54 0,
  xL 55 (.nilCheck (.slot 54)),
  xL 56 (.faddr 0 (.slot 55)),
  xL 57 (.load false 1 (.slot 56)),
  xM 58 8,
  xL 59 (.iaddr 2 (.slot 57) (.slot 58)),
  xL 60 (.faddr 1 (.slot 59)),
  xL 61 (.load false 1 (.slot 60)),
  xL 62 (.len .slice (.slot 61)),
  xL 63 (.bin .sub 3 .num (.slot 53) (.slot 62)),
  xL 64 (.nilCheck (.slot 49)),
  xL 65 (.faddr 3 (.slot 64)),
  ⟨⟨.store 1 (.slot 65) (.slot 63), none, none⟩, []⟩]
def r45_15 : List XLine := [xL 9 (.mv (.const .nils))]
def r45_16 : List XLine := [xM 66 9,
  xM 67 0,
  xL 68 (.nilCheck (.slot 67)),
  xL 69 (.faddr 0 (.slot 68)),
  xL 70 (.load false 1 (.slot 69)),
  xM 71 8,
  xL 72 (.slc 2 (.slot 70) none (some (.slot 71)) none),
  xL 73 (.append 2 32 (.slot 66) (.slot 72)),
  xM 9 73]
def r45_17 : List XLine := [xM 74 9,
  xM 75 0,
  xL 76 (.nilCheck (.slot 75)),
  xL 77 (.faddr 0 (.slot 76)),
  xL 78 (.load false 1 (.slot 77)),
  xM 79 8,
  xL 80 (.bin .add 3 .num (.slot 79) (.const (.int .i64 (.ofNat 1)))),
  xL 81 (.slc 2 (.slot 78) (some (.slot 80)) none none),
  xL 82 (.append 2 32 (.slot 74) (.slot 81)),
  xM 9 82]
def r45_18 : List XLine := [xM 83 0,
  xM 84 9,
  xL 85 (.nilCheck (.slot 83)),
  xL 86 (.faddr 0 (.slot 85)),
  ⟨⟨.store 1 (.slot 86) (.slot 84), none, none⟩, []⟩]
def r45_19 : List XLine := [xM 41 7,
  xL 42 (.bin .add 3 .num (.slot 41) (.const (.int .i64 (.ofNat 1)))),
  xM 7 42]
def r45_20 : List XLine := [xL 4 (.mv (.const (.int .i64 (.ofNat 0))))]
def xf45 : XFunc := ⟨(.seq (.region false r45_0)
  (.seq (.seq (.region false r45_1)
  (.block 0 (.loop (.seq (.seq (.region false r45_2)
  (.cond (.slot 13)
  .skip
  (.exit 0)))
  (.seq (.block 1 (.seq (.seq (.region false r45_3)
  (.cond (.slot 22)
  (.seq (.region false r45_4)
  .ret)
  .skip))
  (.seq (.region false r45_5)
  (.block 2 (.loop (.seq (.seq (.region false r45_6)
  (.cond (.slot 25)
  .skip
  (.exit 2)))
  (.seq (.block 3 (.seq (.region true r45_7)
  (.cond (.slot 36)
  (.seq (.region false r45_8)
  .ret)
  .skip)))
  (.region false r45_9))))))))
  (.region false r45_10))))))
  (.seq (.seq (.region false r45_11)
  (.block 4 (.loop (.seq (.seq (.region false r45_12)
  (.cond (.slot 40)
  .skip
  (.exit 4)))
  (.seq (.block 5 (.seq (.region false r45_13)
  (.seq (.region true r45_14)
  (.seq (.region false r45_15)
  (.seq (.region false r45_16)
  (.seq (.region false r45_17)
  (.region false r45_18)))))))
  (.region false r45_19))))))
  (.seq (.region false r45_20)
  .ret)))),
  [.tmp 4]⟩
theorem xf45_ok : compFunc Try.prog Try.f45 = some xf45 := by kernel_rfl
def r46_0 : List XLine := [xL 6 (.mv (.const (.int .i64 (.ofNat 0))))]
def r46_1 : List XLine := [xM 13 1,
  xL 14 (.call (.const (.func 61 [] [])) [(.slot 13)])]
def r46_2 : List XLine := [xL 6 (.mv (.const (.int .i64 (.ofNat 0))))]
def r46_3 : List XLine := [xL 7 (.mv (.const .nils))]
def r46_4 : List XLine := [xL 8 (.mv (.const (.int .i64 (.ofNat 0))))]
def r46_5 : List XLine := [xM 15 8,
  xM 16 1,
  xL 17 (.len .slice (.slot 16)),
  xL 18 (.bin .lss 3 .num (.slot 15) (.slot 17))]
def r46_6 : List XLine := [xM 21 7,
  xM 22 1,
  xM 23 8,
  xL 24 (.iaddr 1 (.slot 22) (.slot 23)),
  xL 25 (.load false 1 (.slot 24)),
  xL 26 (.un .neg (.slot 25)),
  xL 27 (.bslice 1 [(.int .i32 (.ofNat 0))] [(0, 1, (.slot 26))] 1),
  xL 28 (.append 1 4 (.slot 21) (.slot 27)),
  xM 7 28]
def r46_7 : List XLine := [xM 19 8,
  xL 20 (.bin .add 3 .num (.slot 19) (.const (.int .i64 (.ofNat 1)))),
  xM 8 20]
def r46_8 : List XLine := [xM 29 2,
  xL 30 (.call (.const (.func 62 [] [])) [(.slot 29)]),
  xM 9 30]
def r46_9 : List XLine := [xM 32 0,
  xM 33 7,
  xM 34 2,
  xM 35 9,
  xL 36 (.slc 1 (.slot 34) none (some (.slot 35)) none),
  xL 37 (.call (.const (.func 63 [] [])) [(.slot 32), (.slot 33), (.slot 36)]),
  xM 31 37,
  xL 38 (.extract (.slot 31) 0),
  xL 39 (.extract (.slot 31) 1),
  xL 40 (.extract (.slot 31) 2),
  xM 10 38,
  xM 11 39,
  xM 12 40]
def r46_10 : List XLine := [xM 42 12,
  xM 41 42]
def r46_11 : List XLine := [xL 6 (.mv (.const (.int .i64 (.ofNat 60))))]
def r46_12 : List XLine := [xM 44 11,
  xM 43 44]
def r46_13 : List XLine := [xL 6 (.mv (.const (.int .i64 (.ofNat 0))))]
def r46_14 : List XLine := [xM 46 1,
  xL 47 (.len .slice (.slot 46)),
  xL 48 (.bin .eql 3 .num (.slot 47) (.const (.int .i64 (.ofNat 0)))),
  xM 49 48,
  ⟨⟨.mv (.slot 9), some 50, some (49, true)⟩, []⟩,
  ⟨⟨.mv (.slot 2), some 51, some (49, true)⟩, []⟩,
  ⟨⟨.len .slice (.slot 51), some 52, some (49, true)⟩, []⟩,
  ⟨⟨.bin .eql 3 .num (.slot 50) (.slot 52), some 53, some (49, true)⟩, []⟩,
  xL 54 (.pick (.slot 49) (.slot 53) (.const (.bool false))),
  xM 45 54]
def r46_15 : List XLine := [xL 6 (.mv (.const (.int .i64 (.ofNat 61))))]
def r46_16 : List XLine := [xM 55 0,
  xM 56 1,
  xM 57 10,
  xM 58 2,
  xM 59 9,
  xL 60 (.slc 1 (.slot 58) (some (.slot 59)) none none),
  xL 61 (.call (.const (.func 64 [] [])) [(.slot 55), (.slot 56), (.slot 57), (.slot 60)]),
  xM 6 61]
def xf46 : XFunc := ⟨(.seq (.region false r46_0)
  (.seq (.seq (.region false r46_1)
  (.cond (.slot 14)
  (.seq (.region false r46_2)
  .ret)
  .skip))
  (.seq (.region false r46_3)
  (.seq (.seq (.region false r46_4)
  (.block 0 (.loop (.seq (.seq (.region false r46_5)
  (.cond (.slot 18)
  .skip
  (.exit 0)))
  (.seq (.block 1 (.region false r46_6))
  (.region false r46_7))))))
  (.seq (.region false r46_8)
  (.seq (.region false r46_9)
  (.seq (.block 2 (.seq (.region false r46_10)
  (.cond (.slot 41)
  (.seq (.region false r46_11)
  .ret)
  (.seq (.region false r46_12)
  (.cond (.slot 43)
  (.seq (.region false r46_13)
  .ret)
  (.seq (.region false r46_14)
  (.cond (.slot 45)
  (.seq (.region false r46_15)
  .ret)
  .skip)))))))
  (.seq (.region false r46_16)
  .ret)))))))),
  [.tmp 6]⟩
theorem xf46_ok : compFunc Try.prog Try.f46 = some xf46 := by kernel_rfl
def r47_0 : List XLine := [xL 2 (.mv (.const (.int .i64 (.ofNat 0))))]
def r47_1 : List XLine := [xM 3 0,
  xL 4 (.call (.const (.func 65 [] [])) [(.slot 3)]),
  xM 2 4]
def xf47 : XFunc := ⟨(.seq (.region false r47_0)
  (.seq (.region false r47_1)
  .ret)),
  [.tmp 2]⟩
theorem xf47_ok : compFunc Try.prog Try.f47 = some xf47 := by kernel_rfl
def r48_0 : List XLine := [xL 2 (.mv (.const .nils)),
  xL 3 (.mv (.const (.bool false)))]
def r48_1 : List XLine := [xM 7 0,
  xL 8 (.call (.const (.func 49 [] [])) [(.slot 7)]),
  xM 4 8]
def r48_2 : List XLine := [xM 9 4,
  xL 10 (.call (.const (.func 66 [] [])) [(.slot 9), (.const (.func 67 [] []))])]
def r48_3 : List XLine := [xM 11 4,
  xL 12 (.call (.const (.func 68 [] [])) [(.slot 11)]),
  xM 4 12]
def r48_4 : List XLine := [xL 5 (.mv (.const (.bool false)))]
def r48_5 : List XLine := [xM 13 4,
  xL 14 (.len .slice (.slot 13)),
  xL 15 (.mv (.const (.int .i64 (.ofNat 0))))]
def r48_6 : List XLine := [xL 16 (.bin .lss 3 .num (.slot 15) (.slot 14))]
def r48_7 : List XLine := [xM 17 15,
  xM 6 17]
def r48_8 : List XLine := [xM 18 5,
  xM 19 18,
  ⟨⟨.mv (.slot 6), some 20, some (19, false)⟩, []⟩,
  ⟨⟨.bin .gtr 3 .num (.slot 20) (.const (.int .i64 (.ofNat 0))), some 21, some (19, false)⟩, []⟩,
  ⟨⟨.mv (.slot 21), some 22, some (19, false)⟩, []⟩,
  ⟨⟨.mv (.slot 4), some 23, some (22, true)⟩, []⟩,
  ⟨⟨.mv (.slot 6), some 24, some (22, true)⟩, []⟩,
  ⟨⟨.iaddr 1 (.slot 23) (.slot 24), some 25, some (22, true)⟩, []⟩,
  ⟨⟨.load false 1 (.slot 25), some 26, some (22, true)⟩, []⟩,
  ⟨⟨.bin .gtr 57 .num (.slot 26) (.const (.int .i32 (.ofNat 0))), some 27, some (22, true)⟩, []⟩,
  ⟨⟨.pick (.slot 22) (.slot 27) (.const (.bool false)), some 28, some (19, false)⟩, []⟩,
  ⟨⟨.mv (.slot 28), some 29, some (19, false)⟩, []⟩,
  ⟨⟨.mv (.slot 4), some 30, some (29, true)⟩, []⟩,
  ⟨⟨.mv (.slot 6), some 31, some (29, true)⟩, []⟩,
  ⟨⟨.iaddr 1 (.slot 30) (.slot 31), some 32, some (29, true)⟩, []⟩,
  ⟨⟨.load false 1 (.slot 32), some 33, some (29, true)⟩, []⟩,
  ⟨⟨.mv (.slot 4), some 34, some (29, true)⟩, []⟩,
  ⟨⟨.mv (.slot 6), some 35, some (29, true)⟩, []⟩,
  ⟨⟨.bin .sub 3 .num (.slot 35) (.const (.int .i64 (.ofNat 1))), some 36, some (29, true)⟩, []⟩,
  ⟨⟨.iaddr 1 (.slot 34) (.slot 36), some 37, some (29, true)⟩, []⟩,
  ⟨⟨.load false 1 (.slot 37), some 38, some (29, true)⟩, []⟩,
  ⟨⟨.un .neg (.slot 38), some 39, some (29, true)⟩, []⟩,
  ⟨⟨.bin .eql 57 .num (.slot 33) (.slot 39), some 40, some (29, true)⟩, []⟩,
  ⟨⟨.pick (.slot 29) (.slot 40) (.const (.bool false)), some 41, some (19, false)⟩, []⟩,
  xL 42 (.pick (.slot 19) (.const (.bool true)) (.slot 41)),
  xM 5 42]
def r48_9 : List XLine := [xL 43 (.bin .add 3 .num (.slot 15) (.const (.int .i64 (.ofNat 1)))),
  xM 15 43]
def r48_10 : List XLine := [xM 44 4,
  xL 45 (.call (.const (.func 69 [] [])) [(.slot 44)]),
  xM 46 5,
  xM 2 45,
  xM 3 46]
def xf48 : XFunc := ⟨(.seq (.region false r48_0)
  (.seq (.region false r48_1)
  (.seq (.region false r48_2)
  (.seq (.region false r48_3)
  (.seq (.region false r48_4)
  (.seq (.seq (.region false r48_5)
  (.block 0 (.loop (.seq (.region false r48_6)
  (.seq (.cond (.slot 16)
  .skip
  (.exit 0))
  (.seq (.block 1 (.seq (.region false r48_7)
  (.region true r48_8)))
  (.region false r48_9)))))))
  (.seq (.region false r48_10)
  .ret))))))),
  [.tmp 2, .tmp 3]⟩
theorem xf48_ok : compFunc Try.prog Try.f48 = some xf48 := by kernel_rfl
def r49_0 : List XLine := [xL 2 (.mv (.const .nils))]
def r49_1 : List XLine := [xM 3 0,
  xL 4 (.bin .eql 32 .slice (.slot 3) (.const .nils))]
def r49_2 : List XLine := [xL 2 (.mv (.const .nils))]
def r49_3 : List XLine := [xL 5 (.bslice 1 [] [] 0),
  xM 6 0,
  xL 7 (.append 1 4 (.slot 5) (.slot 6)),
  xM 2 7]
def xf49 : XFunc := ⟨(.seq (.region false r49_0)
  (.seq (.seq (.region false r49_1)
  (.cond (.slot 4)
  (.seq (.region false r49_2)
  .ret)
  .skip))
  (.seq (.region false r49_3)
  .ret))),
  [.tmp 2]⟩
theorem xf49_ok : compFunc Try.prog Try.f49 = some xf49 := by kernel_rfl
def r50_0 : List XLine := [xL 1 (.load false 1 (.slot 0)),
  xL 2 (.call (.const (.func 51 [] [])) [(.slot 1), (.const (.int .i64 (.ofNat 0)))])]
def xf50 : XFunc := ⟨(.region false r50_0),
  []⟩
theorem xf50_ok : compFunc Try.prog Try.f50 = some xf50 := by kernel_rfl
def r51_0 : List XLine := [xM 6 0,
  xL 7 (.nilCheck (.slot 6)),
  xL 8 (.faddr 5 (.slot 7)),
  xL 9 (.load false 1 (.slot 8)),
  xM 10 1,
  xL 11 (.slc 1 (.slot 9) (some (.slot 10)) none none),
  xL 12 (.len .slice (.slot 11)),
  xL 13 (.mv (.const (.int .i64 (.ofNat 0))))]
def r51_1 : List XLine := [xL 14 (.bin .lss 3 .num (.slot 13) (.slot 12))]
def r51_2 : List XLine := [xL 15 (.iaddr 1 (.slot 11) (.slot 13)),
  xL 16 (.load false 1 (.slot 15)),
  xM 5 16]
def r51_3 : List XLine := [xM 17 0,
  xL 18 (.nilCheck (.slot 17)),
  xL 19 (.faddr 4 (.slot 18)),
  xL 20 (.load false 1 (.slot 19)),
  xM 21 5,
  ⟨⟨.call (.const (.func 47 [] [])) [(.slot 21)], some 22, none⟩, [⟨.load false 1 (.slot 19), some 20, none⟩]⟩,
  xL 23 (.iaddr 1 (.slot 20) (.slot 22)),
  ⟨⟨.store 1 (.slot 23) (.const (.int .i8 (.ofNat 0))), none, none⟩, []⟩]
def r51_4 : List XLine := [xL 24 (.bin .add 3 .num (.slot 13) (.const (.int .i64 (.ofNat 1)))),
  xM 13 24]
def r51_5 : List XLine := [xM 25 0,
  xM 26 0,
  xL 27 (.nilCheck (.slot 26)),
  xL 28 (.faddr 5 (.slot 27)),
  xL 29 (.load false 1 (.slot 28)),
  xM 30 1,
  xL 31 (.slc 1 (.slot 29) none (some (.slot 30)) none),
  xL 32 (.nilCheck (.slot 25)),
  xL 33 (.faddr 5 (.slot 32)),
  ⟨⟨.store 1 (.slot 33) (.slot 31), none, none⟩, []⟩]
def xf51 : XFunc := ⟨(.seq (.seq (.region false r51_0)
  (.block 0 (.loop (.seq (.region false r51_1)
  (.seq (.cond (.slot 14)
  .skip
  (.exit 0))
  (.seq (.block 1 (.seq (.region false r51_2)
  (.region true r51_3)))
  (.region false r51_4)))))))
  (.region false r51_5)),
  []⟩
theorem xf51_ok : compFunc Try.prog Try.f51 = some xf51 := by kernel_rfl
def r52_0 : List XLine := [xM 5 1,
  xL 6 (.call (.const (.func 47 [] [])) [(.slot 5)]),
  xM 4 6]
def r52_1 : List XLine := [xM 7 4,
  xM 8 0,
  xL 9 (.nilCheck (.slot 8)),
  xL 10 (.faddr 4 (.slot 9)),
  xL 11 (.load false 1 (.slot 10)),
  xL 12 (.len .slice (.slot 11)),
  xL 13 (.bin .geq 3 .num (.slot 7) (.slot 12))]
def r52_2 : List XLine := [xM 14 0,
  xM 15 0,
  xL 16 (.nilCheck (.slot 15)),
  xL 17 (.faddr 4 (.slot 16)),
  xL 18 (.load false 1 (.slot 17)),
  xM 19 4,
  xL 20 (.bin .add 3 .num (.slot 19) (.const (.int .i64 (.ofNat 1)))),
  xM 21 0,
  xL 22 (.nilCheck (.slot 21)),
  xL 23 (.faddr 4 (.slot 22)),
  xL 24 (.load false 1 (.slot 23)),
  xL 25 (.len .slice (.slot 24)),
  xL 26 (.bin .sub 3 .num (.slot 20) (.slot 25)),
  xL 27 (.appendZ 1 1 [(.int .i8 (.ofNat 0))] (.slot 18) (.slot 26)),
  xL 28 (.nilCheck (.slot 14)),
  xL 29 (.faddr 4 (.slot 28)),
  ⟨⟨.store 1 (.slot 29) (.slot 27), none, none⟩, []⟩]
def r52_3 : List XLine := [xM 30 0,
  xL 31 (.nilCheck (.slot 30)),
  xL 32 (.faddr 4 (.slot 31)),
  xL 33 (.load false 1 (.slot 32)),
  xM 34 4,
  xL 35 (.iaddr 1 (.slot 33) (.slot 34)),
  ⟨⟨.store 1 (.slot 35) (.const (.int .i8 (.ofNat 1))), none, none⟩, []⟩]
def r52_4 : List XLine := [xM 36 1,
  xL 37 (.bin .lss 57 .num (.slot 36) (.const (.int .i32 (.ofNat 0))))]
def r52_5 : List XLine := [xM 38 0,
  xL 39 (.nilCheck (.slot 38)),
  xL 40 (.faddr 4 (.slot 39)),
  xL 41 (.load false 1 (.slot 40)),
  xM 42 4,
  xL 43 (.iaddr 1 (.slot 41) (.slot 42)),
  ⟨⟨.store 1 (.slot 43) (.const (.int .i8 (.negSucc 0))), none, none⟩, []⟩]
def r52_6 : List XLine := [xM 44 0,
  xM 45 0,
  xL 46 (.nilCheck (.slot 45)),
  xL 47 (.faddr 5 (.slot 46)),
  xL 48 (.load false 1 (.slot 47)),
  xM 49 1,
  xL 50 (.bslice 1 [(.int .i32 (.ofNat 0))] [(0, 1, (.slot 49))] 1),
  xL 51 (.append 1 4 (.slot 48) (.slot 50)),
  xL 52 (.nilCheck (.slot 44)),
  xL 53 (.faddr 5 (.slot 52)),
  ⟨⟨.store 1 (.slot 53) (.slot 51), none, none⟩, []⟩]
def xf52 : XFunc := ⟨(.seq (.region false r52_0)
  (.seq (.seq (.region false r52_1)
  (.cond (.slot 13)
  (.region true r52_2)
  .skip))
  (.seq (.region false r52_3)
  (.seq (.seq (.region false r52_4)
  (.cond (.slot 37)
  (.region false r52_5)
  .skip))
  (.region false r52_6))))),
  []⟩
theorem xf52_ok : compFunc Try.prog Try.f52 = some xf52 := by kernel_rfl
def r53_0 : List XLine := [xL 2 (.mv (.const .nils)),
  xL 3 (.mv (.const .nils))]
def r53_1 : List XLine := [xM 5 0,
  xL 6 (.call (.const (.func 70 [] [])) [(.slot 5), (.const (.func 71 [] []))]),
  xM 4 6]
def r53_2 : List XLine := [xM 7 4,
  xL 8 (.bin .lss 3 .num (.slot 7) (.const (.int .i64 (.ofNat 0))))]
def r53_3 : List XLine := [xM 9 0,
  xL 10 (.len .slice (.slot 9)),
  xM 4 10]
def r53_4 : List XLine := [xM 11 0,
  xM 12 4,
  xL 13 (.slc 1 (.slot 11) none (some (.slot 12)) none),
  xM 14 0,
  xM 15 4,
  xL 16 (.slc 1 (.slot 14) (some (.slot 15)) none none),
  xM 2 13,
  xM 3 16]
def xf53 : XFunc := ⟨(.seq (.region false r53_0)
  (.seq (.region false r53_1)
  (.seq (.seq (.region false r53_2)
  (.cond (.slot 8)
  (.region false r53_3)
  .skip))
  (.seq (.region true r53_4)
  .ret)))),
  [.tmp 2, .tmp 3]⟩
theorem xf53_ok : compFunc Try.prog Try.f53 = some xf53 := by kernel_rfl
def r54_0 : List XLine := [xL 2 (.box (.slot 0)),
  xL 4 (.mv (.const (.int .i64 (.ofNat 0))))]
def r54_1 : List XLine := [xL 9 (.mkfunc 72 [] [(.slot 2)]),
  xM 5 9]
def r54_2 : List XLine := [xM 10 1,
  xL 11 (.len .slice (.slot 10)),
  xL 12 (.mv (.const (.int .i64 (.ofNat 0))))]
def r54_3 : List XLine := [xL 13 (.bin .lss 3 .num (.slot 12) (.slot 11))]
def r54_4 : List XLine := [xL 14 (.iaddr 1 (.slot 10) (.slot 12)),
  xL 15 (.load false 1 (.slot 14)),
  xM 7 15]
def r54_5 : List XLine := [xM 16 5,
  xM 17 7,
  xL 18 (.call (.slot 16) [(.slot 17)]),
  xM 8 18]
def r54_6 : List XLine := [xM 19 8,
  xL 20 (.bin .neq 91 .num (.slot 19) (.const (.int .i64 (.ofNat 0))))]
def r54_7 : List XLine := [xM 21 8,
  xM 4 21]
def r54_8 : List XLine := [xL 22 (.bin .add 3 .num (.slot 12) (.const (.int .i64 (.ofNat 1)))),
  xM 12 22]
def r54_9 : List XLine := [xL 4 (.mv (.const (.int .i64 (.ofNat 0))))]
def xf54 : XFunc := ⟨(.seq (.region false r54_0)
  (.seq (.region false r54_1)
  (.seq (.seq (.region false r54_2)
  (.block 0 (.loop (.seq (.region false r54_3)
  (.seq (.cond (.slot 13)
  .skip
  (.exit 0))
  (.seq (.block 1 (.seq (.region false r54_4)
  (.seq (.region false r54_5)
  (.seq (.region false r54_6)
  (.cond (.slot 20)
  (.seq (.region false r54_7)
  .ret)
  .skip)))))
  (.region false r54_8)))))))
  (.seq (.region false r54_9)
  .ret)))),
  [.tmp 4]⟩
theorem xf54_ok : compFunc Try.prog Try.f54 = some xf54 := by kernel_rfl
def r55_0 : List XLine := [xL 6 (.mv (.const (.int .i64 (.ofNat 0))))]
def r55_1 : List XLine := [xL 17 (.mkmap .i64),
  xM 7 17]
def r55_2 : List XLine := [xL 8 (.mv (.const (.int .i64 (.ofNat 0))))]
def r55_3 : List XLine := [xM 18 2,
  xL 19 (.len .slice (.slot 18)),
  xL 20 (.bin .gtr 3 .num (.slot 19) (.const (.int .i64 (.ofNat 0))))]
def r55_4 : List XLine := [xM 21 2,
  xL 22 (.iaddr 1 (.slot 21) (.const (.int .i64 (.ofNat 0)))),
  xL 23 (.load false 1 (.slot 22)),
  xL 24 (.un .neg (.slot 23)),
  xM 9 24]
def r55_5 : List XLine := [xM 26 2,
  xL 27 (.slc 1 (.slot 26) (some (.const (.int .i64 (.ofNat 1)))) none none),
  xL 28 (.call (.const (.func 53 [] [])) [(.slot 27)]),
  xM 25 28,
  xL 29 (.extract (.slot 25) 0),
  xL 30 (.extract (.slot 25) 1),
  xM 10 29,
  xM 11 30]
def r55_6 : List XLine := [xM 32 0,
  xL 33 (.nilCheck (.slot 32)),
  xL 34 (.faddr 0 (.slot 33)),
  xL 35 (.load false 1 (.slot 34)),
  xM 36 9,
  xL 37 (.lookup .i64 .nilp (.slot 35) (.slot 36) true),
  xM 31 37,
  xL 38 (.extract (.slot 31) 0),
  xL 39 (.extract (.slot 31) 1),
  xM 12 38,
  xM 13 39]
def r55_7 : List XLine := [xM 40 13,
  xL 41 (.un .not (.slot 40)),
  xM 42 41,
  ⟨⟨.mv (.slot 12), some 43, some (42, false)⟩, []⟩,
  ⟨⟨.nilCheck (.slot 43), some 44, some (42, false)⟩, []⟩,
  ⟨⟨.faddr 1 (.slot 44), some 45, some (42, false)⟩, []⟩,
  ⟨⟨.load false 1 (.slot 45), some 46, some (42, false)⟩, []⟩,
  ⟨⟨.mv (.slot 1), some 47, some (42, false)⟩, []⟩,
  ⟨⟨.un .neg (.slot 47), some 48, some (42, false)⟩, []⟩,
  ⟨⟨.call (.const (.func 74 [] [])) [(.slot 46), (.slot 48)], some 49, some (42, false)⟩, []⟩,
  ⟨⟨.un .not (.slot 49), some 50, some (42, false)⟩, []⟩,
  xL 51 (.pick (.slot 42) (.const (.bool true)) (.slot 50)),
  xM 52 51,
  ⟨⟨.mv (.slot 9), some 53, some (52, false)⟩, []⟩,
  ⟨⟨.mv (.slot 8), some 54, some (52, false)⟩, []⟩,
  ⟨⟨.bin .leq 2 .num (.slot 53) (.slot 54), some 55, some (52, false)⟩, []⟩,
  xL 56 (.pick (.slot 52) (.const (.bool true)) (.slot 55))]
def r55_8 : List XLine := [xL 6 (.mv (.const (.int .i64 (.ofNat 60))))]
def r55_9 : List XLine := [xM 57 0,
  xM 58 12,
  xM 59 1,
  xM 60 10,
  xL 61 (.call (.const (.func 75 [] [])) [(.slot 57), (.slot 58), (.slot 59), (.slot 60)]),
  xM 14 61]
def r55_10 : List XLine := [xM 62 14,
  xL 63 (.bin .neq 28 .num (.slot 62) (.const (.int .i64 (.ofNat 0))))]
def r55_11 : List XLine := [xM 64 14,
  xM 6 64]
def r55_12 : List XLine := [xM 65 7,
  xM 66 9,
  xM 67 9,
  xM 68 11,
  ⟨⟨.mapup .i64 (.slot 65) (.slot 66) (.const (.bool true)), none, none⟩, []⟩,
  xM 8 67,
  xM 2 68]
def r55_13 : List XLine := [xM 69 0,
  xL 70 (.nilCheck (.slot 69)),
  xL 71 (.faddr 0 (.slot 70)),
  xL 72 (.load false 1 (.slot 71)),
  xL 73 (.range .i64 (.slot 72))]
def r55_14 : List XLine := [xL 74 (.next (.slot 73)),
  xL 75 (.extract (.slot 74) 0)]
def r55_15 : List XLine := [xL 76 (.entry (.slot 73)),
  xL 77 (.extract (.slot 76) 0),
  xL 78 (.extract (.slot 76) 1),
  xM 15 77,
  xM 16 78]
def r55_16 : List XLine := [xM 79 7,
  xM 80 15,
  xL 81 (.lookup .i64 (.bool false) (.slot 79) (.slot 80) false),
  xL 82 (.un .not (.slot 81)),
  xM 83 82,
  ⟨⟨.mv (.slot 16), some 84, some (83, true)⟩, []⟩,
  ⟨⟨.nilCheck (.slot 84), some 85, some (83, true)⟩, []⟩,
  ⟨⟨.faddr 1 (.slot 85), some 86, some (83, true)⟩, []⟩,
  ⟨⟨.load false 1 (.slot 86), some 87, some (83, true)⟩, []⟩,
  ⟨⟨.mv (.slot 1), some 88, some (83, true)⟩, []⟩,
  ⟨⟨.un .neg (.slot 88), some 89, some (83, true)⟩, []⟩,
  ⟨⟨.call (.const (.func 74 [] [])) [(.slot 87), (.slot 89)], some 90, some (83, true)⟩, []⟩,
  xL 91 (.pick (.slot 83) (.slot 90) (.const (.bool false)))]
def r55_17 : List XLine := [xL 6 (.mv (.const (.int .i64 (.ofNat 61))))]
def r55_18 : List XLine := [xL 6 (.mv (.const (.int .i64 (.ofNat 0))))]
def xf55 : XFunc := ⟨(.seq (.region false r55_0)
  (.seq (.region false r55_1)
  (.seq (.region false r55_2)
  (.seq (.block 0 (.loop (.seq (.seq (.region false r55_3)
  (.cond (.slot 20)
  .skip
  (.exit 0)))
  (.block 1 (.seq (.region false r55_4)
  (.seq (.region false r55_5)
  (.seq (.region false r55_6)
  (.seq (.seq (.region false r55_7)
  (.cond (.slot 56)
  (.seq (.region false r55_8)
  .ret)
  .skip))
  (.seq (.seq (.region false r55_9)
  (.seq (.region false r55_10)
  (.cond (.slot 63)
  (.seq (.region false r55_11)
  .ret)
  .skip)))
  (.region false r55_12))))))))))
  (.seq (.seq (.region false r55_13)
  (.block 2 (.loop (.seq (.region false r55_14)
  (.seq (.cond (.slot 75)
  .skip
  (.exit 2))
  (.block 3 (.seq (.region false r55_15)
  (.seq (.region false r55_16)
  (.cond (.slot 91)
  (.seq (.region false r55_17)
  .ret)
  .skip)))))))))
  (.seq (.region false r55_18)
  .ret)))))),
  [.tmp 6]⟩
theorem xf55_ok : compFunc Try.prog Try.f55 = some xf55 := by kernel_rfl
def r56_0 : List XLine := [xL 2 (.mv (.const .nils))]
def r56_1 : List XLine := [xM 3 0,
  xL 4 (.call (.const (.func 76 [] [])) [(.const .nils), (.slot 3)]),
  xM 2 4]
def xf56 : XFunc := ⟨(.seq (.region false r56_0)
  (.seq (.region false r56_1)
  .ret)),
  [.tmp 2]⟩
theorem xf56_ok : compFunc Try.prog Try.f56 = some xf56 := by kernel_rfl
def r57_0 : List XLine := [xM 3 0,
  xL 4 (.len .slice (.slot 3)),
  xM 2 4]
def r57_1 : List XLine := [xM 5 0,
  xM 6 2,
  xM 7 2,
  xL 8 (.conv .u64 (.slot 7)),
  xL 9 (.call (.const (.func 78 [] [])) [(.slot 8)]),
  xL 10 (.call (.const (.func 77 [] [])) [(.slot 5), (.const (.int .i64 (.ofNat 0))), (.slot 6), (.slot 9)])]
def xf57 : XFunc := ⟨(.seq (.region false r57_0)
  (.region false r57_1)),
  []⟩
theorem xf57_ok : compFunc Try.prog Try.f57 = some xf57 := by kernel_rfl
def r58_0 : List XLine := [xL 4 (.load false 1 (.slot 1)),
  xL 5 (.range .i64 (.slot 4))]
def r58_1 : List XLine := [xL 6 (.next (.slot 5)),
  xL 7 (.extract (.slot 6) 0)]
def r58_2 : List XLine := [xL 8 (.entry (.slot 5)),
  xL 9 (.extract (.slot 8) 0),
  xM 3 9]
def r58_3 : List XLine := [xM 10 0,
  xM 11 3,
  xL 12 (.call (.slot 10) [(.slot 11)]),
  xL 13 (.un .not (.slot 12))]
def xf58 : XFunc := ⟨(.seq (.region false r58_0)
  (.block 0 (.loop (.seq (.region false r58_1)
  (.seq (.cond (.slot 7)
  .skip
  (.exit 0))
  (.block 1 (.seq (.region false r58_2)
  (.seq (.region false r58_3)
  (.cond (.slot 13)
  .ret
  .skip))))))))),
  []⟩
theorem xf58_ok : compFunc Try.prog Try.f58 = some xf58 := by kernel_rfl
def r59_0 : List XLine := [xL 2 (.mv (.const (.bool false)))]
def r59_1 : List XLine := [xM 3 0,
  xL 4 (.bin .neq 57 .num (.slot 3) (.const (.int .i32 (.ofNat 0)))),
  xM 5 4,
  ⟨⟨.mv (.slot 0), some 6, some (5, true)⟩, []⟩,
  ⟨⟨.bin .geq 57 .num (.slot 6) (.const (.int .i32 (.negSucc 1048575))), some 7, some (5, true)⟩, []⟩,
  xL 8 (.pick (.slot 5) (.slot 7) (.const (.bool false))),
  xM 9 8,
  ⟨⟨.mv (.slot 0), some 10, some (9, true)⟩, []⟩,
  ⟨⟨.bin .leq 57 .num (.slot 10) (.const (.int .i32 (.ofNat 1048576))), some 11, some (9, true)⟩, []⟩,
  xL 12 (.pick (.slot 9) (.slot 11) (.const (.bool false))),
  xM 2 12]
def xf59 : XFunc := ⟨(.seq (.region false r59_0)
  (.seq (.region false r59_1)
  .ret)),
  [.tmp 2]⟩
theorem xf59_ok : compFunc Try.prog Try.f59 = some xf59 := by kernel_rfl
def r60_0 : List XLine := [xL 4 (.mv (.const (.int .i64 (.ofNat 0))))]
def r60_1 : List XLine := [xL 5 (.mv (.const (.int .i64 (.ofNat 0))))]
def r60_2 : List XLine := [xM 6 5,
  xM 7 0,
  xL 8 (.nilCheck (.slot 7)),
  xL 9 (.faddr 0 (.slot 8)),
  xL 10 (.load false 1 (.slot 9)),
  xL 11 (.len .slice (.slot 10)),
  xL 12 (.bin .lss 3 .num (.slot 6) (.slot 11))]
def r60_3 : List XLine := [xM 15 0,
  xL 16 (.nilCheck (.slot 15)),
  xL 17 (.faddr 0 (.slot 16)),
  xL 18 (.load false 1 (.slot 17)),
  xM 19 5,
  xL 20 (.iaddr 2 (.slot 18) (.slot 19)),
  xL 21 (.faddr 0 (.slot 20)),
  xL 22 (.load false 1 (.slot 21)),
  xM 23 1,
  xL 24 (.bin .eql 2 .num (.slot 22) (.slot 23))]
def r60_4 : List XLine := [xM 25 5,
  xM 4 25]
def r60_5 : List XLine := [xM 13 5,
  xL 14 (.bin .add 3 .num (.slot 13) (.const (.int .i64 (.ofNat 1)))),
  xM 5 14]
def r60_6 : List XLine := [xL 4 (.mv (.const (.int .i64 (.negSucc 0))))]
def xf60 : XFunc := ⟨(.seq (.region false r60_0)
  (.seq (.seq (.region false r60_1)
  (.block 0 (.loop (.seq (.seq (.region false r60_2)
  (.cond (.slot 12)
  .skip
  (.exit 0)))
  (.seq (.block 1 (.seq (.region false r60_3)
  (.cond (.slot 24)
  (.seq (.region false r60_4)
  .ret)
  .skip)))
  (.region false r60_5))))))
  (.seq (.region false r60_6)
  .ret))),
  [.tmp 4]⟩
theorem xf60_ok : compFunc Try.prog Try.f60 = some xf60 := by kernel_rfl
def r61_0 : List XLine := [xL 2 (.mv (.const (.bool false)))]
def r61_1 : List XLine := [xM 6 0,
  xL 7 (.call (.const (.func 79 [] [])) [(.slot 6)]),
  xM 5 7,
  xL 8 (.extract (.slot 5) 0),
  xL 9 (.extract (.slot 5) 1),
  xM 3 8,
  xM 4 9]
def r61_2 : List XLine := [xM 10 4,
  xM 2 10]
def xf61 : XFunc := ⟨(.seq (.region false r61_0)
  (.seq (.region false r61_1)
  (.seq (.region false r61_2)
  .ret))),
  [.tmp 2]⟩
theorem xf61_ok : compFunc Try.prog Try.f61 = some xf61 := by kernel_rfl
def r62_0 : List XLine := [xL 2 (.mv (.const (.int .i64 (.ofNat 0))))]
def r62_1 : List XLine := [xL 3 (.mv (.const (.int .i64 (.ofNat 0))))]
def r62_2 : List XLine := [xM 4 3,
  xM 5 0,
  xL 6 (.len .slice (.slot 5)),
  xL 7 (.bin .lss 3 .num (.slot 4) (.slot 6)),
  xM 8 7,
  ⟨⟨.mv (.slot 0), some 9, some (8, true)⟩, []⟩,
  ⟨⟨.mv (.slot 3), some 10, some (8, true)⟩, []⟩,
  ⟨⟨.iaddr 1 (.slot 9) (.slot 10), some 11, some (8, true)⟩, []⟩,
  ⟨⟨.load false 1 (.slot 11), some 12, some (8, true)⟩, []⟩,
  ⟨⟨.bin .gtr 2 .num (.slot 12) (.const (.int .i64 (.ofNat 0))), some 13, some (8, true)⟩, []⟩,
  xL 14 (.pick (.slot 8) (.slot 13) (.const (.bool false)))]
def r62_3 : List XLine := [xM 15 3,
  xL 16 (.bin .add 3 .num (.slot 15) (.const (.int .i64 (.ofNat 1)))),
  xM 3 16]
def r62_4 : List XLine := [xM 17 3,
  xM 2 17]
def xf62 : XFunc := ⟨(.seq (.region false r62_0)
  (.seq (.region false r62_1)
  (.seq (.block 0 (.loop (.seq (.seq (.region false r62_2)
  (.cond (.slot 14)
  .skip
  (.exit 0)))
  (.block 1 (.region false r62_3)))))
  (.seq (.region false r62_4)
  .ret)))),
  [.tmp 2]⟩
theorem xf62_ok : compFunc Try.prog Try.f62 = some xf62 := by kernel_rfl
def r63_0 : List XLine := [xL 6 (.mv (.const .nils)),
  xL 7 (.mv (.const (.bool false))),
  xL 8 (.mv (.const (.bool false)))]
def r63_1 : List XLine := [xL 9 (.mv (.const (.int .i64 (.ofNat 0))))]
def r63_2 : List XLine := [xM 14 9,
  xM 15 2,
  xL 16 (.len .slice (.slot 15)),
  xL 17 (.bin .lss 3 .num (.slot 14) (.slot 16))]
def r63_3 : List XLine := [xM 20 0,
  xM 21 2,
  xM 22 9,
  xL 23 (.iaddr 1 (.slot 21) (.slot 22)),
  xL 24 (.load false 1 (.slot 23)),
  xL 25 (.call (.const (.func 60 [] [])) [(.slot 20), (.slot 24)]),
  xM 10 25]
def r63_4 : List XLine := [xM 26 10,
  xL 27 (.bin .lss 3 .num (.slot 26) (.const (.int .i64 (.ofNat 0))))]
def r63_5 : List XLine := [xM 28 1,
  xM 6 28,
  xL 7 (.mv (.const (.bool false))),
  xL 8 (.mv (.const (.bool true)))]
def r63_6 : List XLine := [xL 11 (.mv (.const .nils))]
def r63_7 : List XLine := [xM 29 0,
  xL 30 (.nilCheck (.slot 29)),
  xL 31 (.faddr 0 (.slot 30)),
  xL 32 (.load false 1 (.slot 31)),
  xM 33 10,
  xL 34 (.iaddr 2 (.slot 32) (.slot 33)),
  xL 35 (.faddr 1 (.slot 34)),
  xL 36 (.load false 1 (.slot 35)),
  xM 12 36]
def r63_8 : List XLine := [xL 13 (.mv (.const (.int .i64 (.ofNat 0))))]
def r63_9 : List XLine := [xM 37 13,
  xM 38 12,
  xL 39 (.len .slice (.slot 38)),
  xL 40 (.bin .lss 3 .num (.slot 37) (.slot 39))]
def r63_10 : List XLine := [xM 43 1,
  xM 44 12,
  xM 45 13,
  xL 46 (.iaddr 1 (.slot 44) (.slot 45)),
  xL 47 (.load false 1 (.slot 46)),
  xL 48 (.call (.const (.func 37 [] [])) [(.slot 43), (.slot 47)])]
def r63_11 : List XLine := [xM 49 1,
  xM 6 49,
  xL 7 (.mv (.const (.bool false))),
  xL 8 (.mv (.const (.bool true)))]
def r63_12 : List XLine := [xM 50 1,
  xM 51 12,
  xM 52 13,
  xL 53 (.iaddr 1 (.slot 51) (.slot 52)),
  xL 54 (.load false 1 (.slot 53)),
  xL 55 (.un .neg (.slot 54)),
  xL 56 (.call (.const (.func 37 [] [])) [(.slot 50), (.slot 55)]),
  xL 57 (.un .not (.slot 56)),
  xM 58 57,
  ⟨⟨.mv (.slot 11), some 59, some (58, true)⟩, []⟩,
  ⟨⟨.mv (.slot 12), some 60, some (58, true)⟩, []⟩,
  ⟨⟨.mv (.slot 13), some 61, some (58, true)⟩, []⟩,
  ⟨⟨.iaddr 1 (.slot 60) (.slot 61), some 62, some (58, true)⟩, []⟩,
  ⟨⟨.load false 1 (.slot 62), some 63, some (58, true)⟩, []⟩,
  ⟨⟨.call (.const (.func 37 [] [])) [(.slot 59), (.slot 63)], some 64, some (58, true)⟩, []⟩,
  ⟨⟨.un .not (.slot 64), some 65, some (58, true)⟩, []⟩,
  xL 66 (.pick (.slot 58) (.slot 65) (.const (.bool false)))]
def r63_13 : List XLine := [xM 67 11,
  xM 68 12,
  xM 69 13,
  xL 70 (.iaddr 1 (.slot 68) (.slot 69)),
  xL 71 (.load false 1 (.slot 70)),
  xL 72 (.bslice 1 [(.int .i32 (.ofNat 0))] [(0, 1, (.slot 71))] 1),
  xL 73 (.append 1 4 (.slot 67) (.slot 72)),
  xM 11 73]
def r63_14 : List XLine := [xM 41 13,
  xL 42 (.bin .add 3 .num (.slot 41) (.const (.int .i64 (.ofNat 1)))),
  xM 13 42]
def r63_15 : List XLine := [xM 74 11,
  xL 75 (.len .slice (.slot 74)),
  xL 76 (.bin .eql 3 .num (.slot 75) (.const (.int .i64 (.ofNat 0))))]
def r63_16 : List XLine := [xM 77 1,
  xM 6 77,
  xL 7 (.mv (.const (.bool true))),
  xL 8 (.mv (.const (.bool false)))]
def r63_17 : List XLine := [xM 78 11,
  xL 79 (.len .slice (.slot 78)),
  xL 80 (.bin .gtr 3 .num (.slot 79) (.const (.int .i64 (.ofNat 1))))]
def r63_18 : List XLine := [xM 81 1,
  xM 6 81,
  xL 7 (.mv (.const (.bool false))),
  xL 8 (.mv (.const (.bool true)))]
def r63_19 : List XLine := [xM 82 1,
  xM 83 11,
  xL 84 (.iaddr 1 (.slot 83) (.const (.int .i64 (.ofNat 0)))),
  xL 85 (.load false 1 (.slot 84)),
  xL 86 (.bslice 1 [(.int .i32 (.ofNat 0))] [(0, 1, (.slot 85))] 1),
  xL 87 (.append 1 4 (.slot 82) (.slot 86)),
  xM 1 87]
def r63_20 : List XLine := [xM 18 9,
  xL 19 (.bin .add 3 .num (.slot 18) (.const (.int .i64 (.ofNat 1)))),
  xM 9 19]
def r63_21 : List XLine := [xM 88 1,
  xM 6 88,
  xL 7 (.mv (.const (.bool false))),
  xL 8 (.mv (.const (.bool false)))]
def xf63 : XFunc := ⟨(.seq (.region false r63_0)
  (.seq (.seq (.region false r63_1)
  (.block 0 (.loop (.seq (.seq (.region false r63_2)
  (.cond (.slot 17)
  .skip
  (.exit 0)))
  (.seq (.block 1 (.seq (.region false r63_3)
  (.seq (.seq (.region false r63_4)
  (.cond (.slot 27)
  (.seq (.region false r63_5)
  .ret)
  .skip))
  (.seq (.region false r63_6)
  (.seq (.region false r63_7)
  (.seq (.seq (.region false r63_8)
  (.block 2 (.loop (.seq (.seq (.region false r63_9)
  (.cond (.slot 40)
  .skip
  (.exit 2)))
  (.seq (.block 3 (.seq (.seq (.region false r63_10)
  (.cond (.slot 48)
  (.seq (.region false r63_11)
  .ret)
  .skip))
  (.seq (.region false r63_12)
  (.cond (.slot 66)
  (.region false r63_13)
  .skip))))
  (.region false r63_14))))))
  (.seq (.seq (.region false r63_15)
  (.cond (.slot 76)
  (.seq (.region false r63_16)
  .ret)
  .skip))
  (.seq (.seq (.region false r63_17)
  (.cond (.slot 80)
  (.seq (.region false r63_18)
  .ret)
  .skip))
  (.region false r63_19)))))))))
  (.region false r63_20))))))
  (.seq (.region false r63_21)
  .ret))),
  [.tmp 6, .tmp 7, .tmp 8]⟩
theorem xf63_ok : compFunc Try.prog Try.f63 = some xf63 := by kernel_rfl
def r64_0 : List XLine := [xL 8 (.mv (.const (.int .i64 (.ofNat 0))))]
def r64_1 : List XLine := [xM 19 1,
  xL 20 (.len .slice (.slot 19)),
  xL 21 (.bin .eql 3 .num (.slot 20) (.const (.int .i64 (.ofNat 0))))]
def r64_2 : List XLine := [xL 8 (.mv (.const (.int .i64 (.ofNat 61))))]
def r64_3 : List XLine := [xM 22 1,
  xL 23 (.iaddr 1 (.slot 22) (.const (.int .i64 (.ofNat 0)))),
  xL 24 (.load false 1 (.slot 23)),
  xM 9 24]
def r64_4 : List XLine := [xL 10 (.mv (.const .nils))]
def r64_5 : List XLine := [xL 11 (.mv (.const (.int .i64 (.ofNat 0))))]
def r64_6 : List XLine := [xM 25 11,
  xM 26 3,
  xL 27 (.len .slice (.slot 26)),
  xL 28 (.bin .lss 3 .num (.slot 25) (.slot 27))]
def r64_7 : List XLine := [xM 29 3,
  xM 30 11,
  xL 31 (.iaddr 1 (.slot 29) (.slot 30)),
  xL 32 (.load false 1 (.slot 31)),
  xL 33 (.un .neg (.slot 32)),
  xM 12 33]
def r64_8 : List XLine := [xM 34 3,
  xM 35 11,
  xL 36 (.bin .add 3 .num (.slot 35) (.const (.int .i64 (.ofNat 1)))),
  xL 37 (.slc 1 (.slot 34) (some (.slot 36)) none none),
  xL 38 (.call (.const (.func 62 [] [])) [(.slot 37)]),
  xM 13 38]
def r64_9 : List XLine := [xM 39 0,
  xM 40 12,
  xL 41 (.call (.const (.func 60 [] [])) [(.slot 39), (.slot 40)]),
  xM 14 41]
def r64_10 : List XLine := [xM 42 14,
  xL 43 (.bin .lss 3 .num (.slot 42) (.const (.int .i64 (.ofNat 0)))),
  xM 44 43,
  ⟨⟨.mv (.slot 0), some 45, some (44, false)⟩, []⟩,
  ⟨⟨.nilCheck (.slot 45), some 46, some (44, false)⟩, []⟩,
  ⟨⟨.faddr 0 (.slot 46), some 47, some (44, false)⟩, []⟩,
  ⟨⟨.load false 1 (.slot 47), some 48, some (44, false)⟩, []⟩,
  ⟨⟨.mv (.slot 14), some 49, some (44, false)⟩, []⟩,
  ⟨⟨.iaddr 2 (.slot 48) (.slot 49), some 50, some (44, false)⟩, []⟩,
  ⟨⟨.faddr 1 (.slot 50), some 51, some (44, false)⟩, []⟩,
  ⟨⟨.load false 1 (.slot 51), some 52, some (44, false)⟩, []⟩,
  ⟨⟨.mv (.slot 9), some 53, some (44, false)⟩, []⟩,
  ⟨⟨.un .neg (.slot 53), some 54, some (44, false)⟩, []⟩,
  ⟨⟨.call (.const (.func 37 [] [])) [(.slot 52), (.slot 54)], some 55, some (44, false)⟩, []⟩,
  ⟨⟨.un .not (.slot 55), some 56, some (44, false)⟩, []⟩,
  xL 57 (.pick (.slot 44) (.const (.bool true)) (.slot 56)),
  xM 58 57,
  ⟨⟨.mv (.slot 10), some 59, some (58, false)⟩, []⟩,
  ⟨⟨.len .slice (.slot 59), some 60, some (58, false)⟩, []⟩,
  ⟨⟨.bin .gtr 3 .num (.slot 60) (.const (.int .i64 (.ofNat 0))), some 61, some (58, false)⟩, []⟩,
  ⟨⟨.mv (.slot 61), some 62, some (58, false)⟩, []⟩,
  ⟨⟨.mv (.slot 10), some 63, some (62, true)⟩, []⟩,
  ⟨⟨.mv (.slot 10), some 64, some (62, true)⟩, []⟩,
  ⟨⟨.len .slice (.slot 64), some 65, some (62, true)⟩, []⟩,
  ⟨⟨.bin .sub 3 .num (.slot 65) (.const (.int .i64 (.ofNat 1))), some 66, some (62, true)⟩, []⟩,
  ⟨⟨.iaddr 1 (.slot 63) (.slot 66), some 67, some (62, true)⟩, []⟩,
  ⟨⟨.load false 1 (.slot 67), some 68, some (62, true)⟩, []⟩,
  ⟨⟨.mv (.slot 12), some 69, some (62, true)⟩, []⟩,
  ⟨⟨.bin .geq 2 .num (.slot 68) (.slot 69), some 70, some (62, true)⟩, []⟩,
  ⟨⟨.pick (.slot 62) (.slot 70) (.const (.bool false)), some 71, some (58, false)⟩, []⟩,
  xL 72 (.pick (.slot 58) (.const (.bool true)) (.slot 71))]
def r64_11 : List XLine := [xL 8 (.mv (.const (.int .i64 (.ofNat 60))))]
def r64_12 : List XLine := [xM 73 0,
  xM 74 0,
  xL 75 (.nilCheck (.slot 74)),
  xL 76 (.faddr 0 (.slot 75)),
  xL 77 (.load false 1 (.slot 76)),
  xM 78 14,
  xL 79 (.iaddr 2 (.slot 77) (.slot 78)),
  xL 80 (.faddr 1 (.slot 79)),
  xL 81 (.load false 1 (.slot 80)),
  xM 82 9,
  xM 83 2,
  xM 84 3,
  xM 85 11,
  xL 86 (.bin .add 3 .num (.slot 85) (.const (.int .i64 (.ofNat 1)))),
  xM 87 11,
  xL 88 (.bin .add 3 .num (.slot 87) (.const (.int .i64 (.ofNat 1)))),
  xM 89 13,
  xL 90 (.bin .add 3 .num (.slot 88) (.slot 89)),
  xL 91 (.slc 1 (.slot 84) (some (.slot 86)) (some (.slot 90)) none),
  xL 92 (.call (.const (.func 80 [] [])) [(.slot 73), (.slot 81), (.slot 82), (.slot 83), (.slot 91)]),
  xM 15 92]
def r64_13 : List XLine := [xM 93 15,
  xL 94 (.bin .neq 28 .num (.slot 93) (.const (.int .i64 (.ofNat 0))))]
def r64_14 : List XLine := [xM 95 15,
  xM 8 95]
def r64_15 : List XLine := [xM 96 10,
  xM 97 12,
  xL 98 (.bslice 1 [(.int .i64 (.ofNat 0))] [(0, 1, (.slot 97))] 1),
  xL 99 (.append 1 8 (.slot 96) (.slot 98)),
  xM 10 99]
def r64_16 : List XLine := [xM 100 11,
  xL 101 (.bin .add 3 .num (.slot 100) (.const (.int .i64 (.ofNat 1)))),
  xM 102 13,
  xL 103 (.bin .add 3 .num (.slot 101) (.slot 102)),
  xM 11 103]
def r64_17 : List XLine := [xL 16 (.mv (.const (.int .i64 (.ofNat 0))))]
def r64_18 : List XLine := [xM 104 16,
  xM 105 0,
  xL 106 (.nilCheck (.slot 105)),
  xL 107 (.faddr 0 (.slot 106)),
  xL 108 (.load false 1 (.slot 107)),
  xL 109 (.len .slice (.slot 108)),
  xL 110 (.bin .lss 3 .num (.slot 104) (.slot 109))]
def r64_19 : List XLine := [xM 113 0,
  xL 114 (.nilCheck (.slot 113)),
  xL 115 (.faddr 0 (.slot 114)),
  xL 116 (.load false 1 (.slot 115)),
  xM 117 16,
  xL 118 (.iaddr 2 (.slot 116) (.slot 117)),
  xL 119 (.faddr 1 (.slot 118)),
  xL 120 (.load false 1 (.slot 119)),
  xM 121 9,
  xL 122 (.un .neg (.slot 121)),
  xL 123 (.call (.const (.func 37 [] [])) [(.slot 120), (.slot 122)]),
  xL 124 (.un .not (.slot 123))]
def r64_20 : List XLine := [xL 17 (.mv (.const (.bool false)))]
def r64_21 : List XLine := [xL 18 (.mv (.const (.int .i64 (.ofNat 0))))]
def r64_22 : List XLine := [xM 125 18,
  xM 126 10,
  xL 127 (.len .slice (.slot 126)),
  xL 128 (.bin .lss 3 .num (.slot 125) (.slot 127))]
def r64_23 : List XLine := [xM 131 17,
  xM 132 131,
  ⟨⟨.mv (.slot 10), some 133, some (132, false)⟩, []⟩,
  ⟨⟨.mv (.slot 18), some 134, some (132, false)⟩, []⟩,
  ⟨⟨.iaddr 1 (.slot 133) (.slot 134), some 135, some (132, false)⟩, []⟩,
  ⟨⟨.load false 1 (.slot 135), some 136, some (132, false)⟩, []⟩,
  ⟨⟨.mv (.slot 0), some 137, some (132, false)⟩, []⟩,
  ⟨⟨.nilCheck (.slot 137), some 138, some (132, false)⟩, []⟩,
  ⟨⟨.faddr 0 (.slot 138), some 139, some (132, false)⟩, []⟩,
  ⟨⟨.load false 1 (.slot 139), some 140, some (132, false)⟩, []⟩,
  ⟨⟨.mv (.slot 16), some 141, some (132, false)⟩, []⟩,
  ⟨⟨.iaddr 2 (.slot 140) (.slot 141), some 142, some (132, false)⟩, []⟩,
  ⟨⟨.faddr 0 (.slot 142), some 143, some (132, false)⟩, []⟩,
  ⟨⟨.load false 1 (.slot 143), some 144, some (132, false)⟩, []⟩,
  ⟨⟨.bin .eql 2 .num (.slot 136) (.slot 144), some 145, some (132, false)⟩, []⟩,
  xL 146 (.pick (.slot 132) (.const (.bool true)) (.slot 145)),
  xM 17 146]
def r64_24 : List XLine := [xM 129 18,
  xL 130 (.bin .add 3 .num (.slot 129) (.const (.int .i64 (.ofNat 1)))),
  xM 18 130]
def r64_25 : List XLine := [xM 147 17,
  xL 148 (.un .not (.slot 147))]
def r64_26 : List XLine := [xL 8 (.mv (.const (.int .i64 (.ofNat 61))))]
def r64_27 : List XLine := [xM 111 16,
  xL 112 (.bin .add 3 .num (.slot 111) (.const (.int .i64 (.ofNat 1)))),
  xM 16 112]
def r64_28 : List XLine := [xL 8 (.mv (.const (.int .i64 (.ofNat 0))))]
def xf64 : XFunc := ⟨(.seq (.region false r64_0)
  (.seq (.seq (.region false r64_1)
  (.cond (.slot 21)
  (.seq (.region false r64_2)
  .ret)
  .skip))
  (.seq (.region false r64_3)
  (.seq (.region false r64_4)
  (.seq (.seq (.region false r64_5)
  (.block 0 (.loop (.seq (.seq (.region false r64_6)
  (.cond (.slot 28)
  .skip
  (.exit 0)))
  (.block 1 (.seq (.region false r64_7)
  (.seq (.region false r64_8)
  (.seq (.region false r64_9)
  (.seq (.seq (.region false r64_10)
  (.cond (.slot 72)
  (.seq (.region false r64_11)
  .ret)
  .skip))
  (.seq (.region true r64_12)
  (.seq (.seq (.region false r64_13)
  (.cond (.slot 94)
  (.seq (.region false r64_14)
  .ret)
  .skip))
  (.seq (.region false r64_15)
  (.region false r64_16)))))))))))))
  (.seq (.seq (.region false r64_17)
  (.block 2 (.loop (.seq (.seq (.region false r64_18)
  (.cond (.slot 110)
  .skip
  (.exit 2)))
  (.seq (.block 3 (.seq (.seq (.region false r64_19)
  (.cond (.slot 124)
  (.exit 3)
  .skip))
  (.seq (.region false r64_20)
  (.seq (.seq (.region false r64_21)
  (.block 4 (.loop (.seq (.seq (.region false r64_22)
  (.cond (.slot 128)
  .skip
  (.exit 4)))
  (.seq (.block 5 (.region true r64_23))
  (.region false r64_24))))))
  (.seq (.region false r64_25)
  (.cond (.slot 148)
  (.seq (.region false r64_26)
  .ret)
  .skip))))))
  (.region false r64_27))))))
  (.seq (.region false r64_28)
  .ret))))))),
  [.tmp 8]⟩
theorem xf64_ok : compFunc Try.prog Try.f64 = some xf64 := by kernel_rfl
end Go.Proofs.Ytmkbnbpblhoekaa

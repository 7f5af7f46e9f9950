/- The functions of the program in X's code, printed by a program of ours. -/
import Derived.Test.YtmkbnbpblhoekaaProg
import Derived.Test.YtmkbnbpblhoekaaW0
import Derived.KernelRfl
namespace Go.Proofs.Ytmkbnbpblhoekaa
open Go.Xr
def r3_0 : List XLine := [xL 2 (.box (.slot 0)),
  xL 4 (.mv (.const (.bool false)))]
def r3_1 : List XLine := [xL 11 (.load true 2 (.slot 2)),
  xM 12 1,
  xL 13 (.call (.const (.func 7 [] [])) [(.slot 11), (.slot 12)])]
def r3_2 : List XLine := [xL 14 (.call (.const (.func 8 [] [])) []),
  xM 4 14]
def r3_3 : List XLine := [xL 16 (.load true 2 (.slot 2)),
  xM 17 1,
  xL 18 (.call (.const (.func 9 [] [])) [(.slot 16), (.slot 17)]),
  xM 15 18,
  xL 19 (.extract (.slot 15) 0),
  xL 20 (.extract (.slot 15) 1),
  xL 21 (.extract (.slot 15) 2),
  xM 5 19,
  xM 6 20,
  xM 7 21]
def r3_4 : List XLine := [xL 23 (.load true 2 (.slot 2)),
  xM 24 1,
  xL 25 (.call (.const (.func 10 [] [])) [(.slot 23), (.slot 24)]),
  xM 22 25,
  xL 26 (.extract (.slot 22) 0),
  xL 27 (.extract (.slot 22) 1),
  xL 28 (.extract (.slot 22) 2),
  xM 8 26,
  xM 9 27,
  xM 10 28]
def r3_5 : List XLine := [xM 29 5,
  xM 30 8,
  xL 31 (.bin .eql 4 .bool (.slot 29) (.slot 30)),
  xM 32 31,
  ⟨⟨.mv (.slot 6), some 33, some (32, true)⟩, []⟩,
  ⟨⟨.mv (.slot 9), some 34, some (32, true)⟩, []⟩,
  ⟨⟨.bin .eql 3 .num (.slot 33) (.slot 34), some 35, some (32, true)⟩, []⟩,
  xL 36 (.pick (.slot 32) (.slot 35) (.const (.bool false))),
  xM 37 36,
  ⟨⟨.mv (.slot 7), some 38, some (37, true)⟩, []⟩,
  ⟨⟨.mv (.slot 10), some 39, some (37, true)⟩, []⟩,
  ⟨⟨.bin .eql 28 .num (.slot 38) (.slot 39), some 40, some (37, true)⟩, []⟩,
  xL 41 (.pick (.slot 37) (.slot 40) (.const (.bool false))),
  xM 42 41,
  ⟨⟨.call (.const (.func 8 [] [])) [], some 43, some (42, true)⟩, []⟩,
  xL 44 (.pick (.slot 42) (.slot 43) (.const (.bool false))),
  xM 4 44]
def xf3 : XFunc := ⟨(.seq (.region false r3_0)
  (.seq (.seq (.region false r3_1)
  (.cond (.slot 13)
  (.seq (.region false r3_2)
  .ret)
  .skip))
  (.seq (.region false r3_3)
  (.seq (.region false r3_4)
  (.seq (.region false r3_5)
  .ret))))),
  [.tmp 4]⟩
theorem xf3_ok : compFunc Try.prog Try.f3 = some xf3 := by kernel_rfl
def r4_0 : List XLine := [xL 3 (.box (.slot 0)),
  xL 6 (.mv (.const (.bool false)))]
def r4_1 : List XLine := [xL 12 (.faddr 1 (.slot 3)),
  xL 13 (.load false 1 (.slot 12)),
  xL 14 (.len .slice (.slot 13)),
  xL 15 (.bin .add 2 .num (.slot 14) (.const (.int .i64 (.ofNat 1)))),
  xM 16 1,
  xM 17 2,
  xL 18 (.call (.const (.func 11 [] [])) [(.slot 15), (.slot 16), (.slot 17)]),
  xL 19 (.bslice 4 [(.int .u8 (.ofNat 0)), (.int .i64 (.ofNat 0)), .nils, .nils] [(0, 4, (.slot 18))] 1),
  xM 7 19]
def r4_2 : List XLine := [xL 20 (.load true 2 (.slot 3)),
  xM 21 7,
  xL 22 (.call (.const (.func 7 [] [])) [(.slot 20), (.slot 21)]),
  xM 23 22,
  ⟨⟨.faddr 0 (.slot 3), some 24, some (23, false)⟩, []⟩,
  ⟨⟨.load false 1 (.slot 24), some 25, some (23, false)⟩, []⟩,
  ⟨⟨.bin .gtr 3 .num (.slot 25) (.const (.int .i64 (.ofNat 8))), some 26, some (23, false)⟩, []⟩,
  xL 27 (.pick (.slot 23) (.const (.bool true)) (.slot 26)),
  xM 28 27,
  ⟨⟨.faddr 1 (.slot 3), some 29, some (28, false)⟩, []⟩,
  ⟨⟨.load false 1 (.slot 29), some 30, some (28, false)⟩, []⟩,
  ⟨⟨.len .slice (.slot 30), some 31, some (28, false)⟩, []⟩,
  ⟨⟨.bin .gtr 3 .num (.slot 31) (.const (.int .i64 (.ofNat 60))), some 32, some (28, false)⟩, []⟩,
  xL 33 (.pick (.slot 28) (.const (.bool true)) (.slot 32)),
  xM 34 33,
  ⟨⟨.mv (.slot 2), some 35, some (34, false)⟩, []⟩,
  ⟨⟨.call (.const (.func 12 [] [])) [(.slot 35)], some 36, some (34, false)⟩, []⟩,
  ⟨⟨.un .not (.slot 36), some 37, some (34, false)⟩, []⟩,
  xL 38 (.pick (.slot 34) (.const (.bool true)) (.slot 37))]
def r4_3 : List XLine := [xL 39 (.call (.const (.func 8 [] [])) []),
  xM 6 39]
def r4_4 : List XLine := [xL 41 (.load true 2 (.slot 3)),
  xL 42 (.call (.const (.func 13 [] [])) [(.slot 41)]),
  xM 40 42,
  xL 43 (.extract (.slot 40) 0),
  xL 44 (.extract (.slot 40) 1),
  xM 8 43,
  xM 9 44]
def r4_5 : List XLine := [xM 45 9,
  xL 46 (.bin .neq 28 .num (.slot 45) (.const (.int .i64 (.ofNat 0)))),
  xM 47 46,
  ⟨⟨.mv (.slot 8), some 48, some (47, false)⟩, []⟩,
  ⟨⟨.mv (.slot 7), some 49, some (47, false)⟩, []⟩,
  ⟨⟨.iaddr 4 (.slot 49) (.const (.int .i64 (.ofNat 0))), some 50, some (47, false)⟩, []⟩,
  ⟨⟨.load true 4 (.slot 50), some 51, some (47, false)⟩, []⟩,
  ⟨⟨.call (.const (.func 14 [] [])) [(.slot 48), (.slot 51)], some 52, some (47, false)⟩, []⟩,
  ⟨⟨.bin .neq 28 .num (.slot 52) (.const (.int .i64 (.ofNat 0))), some 53, some (47, false)⟩, []⟩,
  xL 54 (.pick (.slot 47) (.const (.bool true)) (.slot 53))]
def r4_6 : List XLine := [xL 55 (.call (.const (.func 8 [] [])) []),
  xM 6 55]
def r4_7 : List XLine := [xL 10 (.mv (.const (.int .i64 (.ofNat 0))))]
def r4_8 : List XLine := [xM 56 10,
  xL 57 (.faddr 0 (.slot 3)),
  xL 58 (.load false 1 (.slot 57)),
  xL 59 (.bin .shl 3 .num (.const (.int .i64 (.ofNat 1))) (.slot 58)),
  xL 60 (.bin .lss 3 .num (.slot 56) (.slot 59))]
def r4_9 : List XLine := [xL 63 (.faddr 0 (.slot 3)),
  xL 64 (.load false 1 (.slot 63)),
  xM 65 10,
  xL 66 (.call (.const (.func 15 [] [])) [(.slot 64), (.slot 65)]),
  xM 11 66]
def r4_10 : List XLine := [xL 67 (.load true 2 (.slot 3)),
  xM 68 11,
  xL 69 (.call (.const (.func 16 [] [])) [(.slot 67), (.slot 68)]),
  xM 70 69,
  ⟨⟨.mv (.slot 1), some 71, some (70, true)⟩, []⟩,
  ⟨⟨.mv (.slot 11), some 72, some (70, true)⟩, []⟩,
  ⟨⟨.call (.const (.func 17 [] [])) [(.slot 71), (.slot 72)], some 73, some (70, true)⟩, []⟩,
  ⟨⟨.un .not (.slot 73), some 74, some (70, true)⟩, []⟩,
  xL 75 (.pick (.slot 70) (.slot 74) (.const (.bool false))),
  xM 76 75,
  ⟨⟨.mv (.slot 1), some 77, some (76, true)⟩, []⟩,
  ⟨⟨.faddr 0 (.slot 3), some 78, some (76, true)⟩, []⟩,
  ⟨⟨.load false 1 (.slot 78), some 79, some (76, true)⟩, []⟩,
  ⟨⟨.call (.const (.func 18 [] [])) [(.slot 77), (.slot 79)], some 80, some (76, true)⟩, []⟩,
  xL 81 (.pick (.slot 76) (.slot 80) (.const (.bool false))),
  xM 82 81,
  ⟨⟨.load true 2 (.slot 3), some 83, some (82, true)⟩, []⟩,
  ⟨⟨.mv (.slot 1), some 84, some (82, true)⟩, []⟩,
  ⟨⟨.call (.const (.func 19 [] [])) [(.slot 83), (.slot 84)], some 85, some (82, true)⟩, []⟩,
  ⟨⟨.un .not (.slot 85), some 86, some (82, true)⟩, []⟩,
  xL 87 (.pick (.slot 82) (.slot 86) (.const (.bool false)))]
def r4_11 : List XLine := [xL 6 (.mv (.const (.bool false)))]
def r4_12 : List XLine := [xM 61 10,
  xL 62 (.bin .add 3 .num (.slot 61) (.const (.int .i64 (.ofNat 1)))),
  xM 10 62]
def r4_13 : List XLine := [xL 88 (.call (.const (.func 8 [] [])) []),
  xM 6 88]
def xf4 : XFunc := ⟨(.seq (.region false r4_0)
  (.seq (.region false r4_1)
  (.seq (.seq (.region false r4_2)
  (.cond (.slot 38)
  (.seq (.region false r4_3)
  .ret)
  .skip))
  (.seq (.region false r4_4)
  (.seq (.seq (.region false r4_5)
  (.cond (.slot 54)
  (.seq (.region false r4_6)
  .ret)
  .skip))
  (.seq (.seq (.region false r4_7)
  (.block 0 (.loop (.seq (.seq (.region false r4_8)
  (.cond (.slot 60)
  .skip
  (.exit 0)))
  (.seq (.block 1 (.seq (.region false r4_9)
  (.seq (.region false r4_10)
  (.cond (.slot 87)
  (.seq (.region false r4_11)
  .ret)
  .skip))))
  (.region false r4_12))))))
  (.seq (.region false r4_13)
  .ret))))))),
  [.tmp 6]⟩
theorem xf4_ok : compFunc Try.prog Try.f4 = some xf4 := by kernel_rfl
def r5_0 : List XLine := [xL 2 (.box (.slot 0)),
  xL 4 (.mv (.const (.bool false)))]
def r5_1 : List XLine := [xL 18 (.load true 2 (.slot 2)),
  xM 19 1,
  xL 20 (.call (.const (.func 7 [] [])) [(.slot 18), (.slot 19)])]
def r5_2 : List XLine := [xL 21 (.call (.const (.func 8 [] [])) []),
  xM 4 21]
def r5_3 : List XLine := [xL 22 (.faddr 0 (.slot 2)),
  xL 23 (.load false 1 (.slot 22)),
  xL 24 (.build [(.int .i64 (.ofNat 0)), .nils] [(0, 1, (.slot 23))]),
  xL 5 (.alloc [(.int .i64 (.ofNat 0)), .nils]),
  ⟨⟨.store 2 (.slot 5) (.slot 24), none, none⟩, []⟩]
def r5_4 : List XLine := [xL 6 (.mv (.const (.int .i64 (.ofNat 0))))]
def r5_5 : List XLine := [xM 25 6,
  xL 26 (.faddr 1 (.slot 2)),
  xL 27 (.load false 1 (.slot 26)),
  xL 28 (.len .slice (.slot 27)),
  xL 29 (.bin .lss 3 .num (.slot 25) (.slot 28))]
def r5_6 : List XLine := [xL 32 (.faddr 1 (.slot 5)),
  xL 33 (.load false 1 (.slot 32)),
  xL 34 (.faddr 1 (.slot 2)),
  xL 35 (.load false 1 (.slot 34)),
  xM 36 6,
  xL 37 (.iaddr 1 (.slot 35) (.slot 36)),
  xL 38 (.load false 1 (.slot 37)),
  ⟨⟨.call (.const (.func 20 [] [])) [(.slot 38)], some 39, none⟩, [⟨.load false 1 (.slot 32), some 33, none⟩]⟩,
  ⟨⟨.bslice 1 [.nils] [(0, 1, (.slot 39))] 1, some 40, none⟩, [⟨.load false 1 (.slot 32), some 33, none⟩]⟩,
  xL 41 (.append 1 24 (.slot 33) (.slot 40)),
  xL 42 (.faddr 1 (.slot 5)),
  ⟨⟨.store 1 (.slot 42) (.slot 41), none, none⟩, []⟩]
def r5_7 : List XLine := [xM 30 6,
  xL 31 (.bin .add 3 .num (.slot 30) (.const (.int .i64 (.ofNat 1)))),
  xM 6 31]
def r5_8 : List XLine := [xL 44 (.load true 2 (.slot 2)),
  xL 45 (.call (.const (.func 13 [] [])) [(.slot 44)]),
  xM 43 45,
  xL 46 (.extract (.slot 43) 0),
  xL 47 (.extract (.slot 43) 1),
  xM 7 46,
  xM 8 47]
def r5_9 : List XLine := [xL 49 (.load true 2 (.slot 5)),
  xL 50 (.call (.const (.func 13 [] [])) [(.slot 49)]),
  xM 48 50,
  xL 51 (.extract (.slot 48) 0),
  xL 52 (.extract (.slot 48) 1),
  xM 9 51,
  xM 10 52]
def r5_10 : List XLine := [xM 53 8,
  xM 54 10,
  xL 55 (.bin .neq 28 .num (.slot 53) (.slot 54))]
def r5_11 : List XLine := [xL 4 (.mv (.const (.bool false)))]
def r5_12 : List XLine := [xL 11 (.mv (.const (.int .i64 (.ofNat 0))))]
def r5_13 : List XLine := [xM 56 11,
  xM 57 1,
  xL 58 (.len .slice (.slot 57)),
  xL 59 (.bin .lss 3 .num (.slot 56) (.slot 58)),
  xM 60 59,
  ⟨⟨.mv (.slot 8), some 61, some (60, true)⟩, []⟩,
  ⟨⟨.bin .eql 28 .num (.slot 61) (.const (.int .i64 (.ofNat 0))), some 62, some (60, true)⟩, []⟩,
  xL 63 (.pick (.slot 60) (.slot 62) (.const (.bool false)))]
def r5_14 : List XLine := [xM 66 1,
  xM 67 11,
  xL 68 (.iaddr 4 (.slot 66) (.slot 67)),
  xL 69 (.load true 4 (.slot 68)),
  xL 12 (.alloc [(.int .u8 (.ofNat 0)), (.int .i64 (.ofNat 0)), .nils, .nils]),
  ⟨⟨.store 4 (.slot 12) (.slot 69), none, none⟩, []⟩]
def r5_15 : List XLine := [xL 70 (.faddr 2 (.slot 12)),
  xL 71 (.load false 1 (.slot 70)),
  xL 72 (.call (.const (.func 20 [] [])) [(.slot 71)]),
  xL 73 (.faddr 2 (.slot 12)),
  ⟨⟨.store 1 (.slot 73) (.slot 72), none, none⟩, []⟩]
def r5_16 : List XLine := [xM 74 7,
  xM 75 1,
  xM 76 11,
  xL 77 (.iaddr 4 (.slot 75) (.slot 76)),
  xL 78 (.load true 4 (.slot 77)),
  xM 80 9,
  xL 81 (.load true 4 (.slot 12)),
  ⟨⟨.call (.const (.func 14 [] [])) [(.slot 74), (.slot 78)], some 79, none⟩, [⟨.load true 4 (.slot 12), some 81, none⟩]⟩,
  xL 82 (.call (.const (.func 14 [] [])) [(.slot 80), (.slot 81)]),
  xM 13 79,
  xM 14 82]
def r5_17 : List XLine := [xM 83 7,
  xL 84 (.call (.const (.func 21 [] [])) [(.slot 83)]),
  xM 85 9,
  xL 86 (.call (.const (.func 21 [] [])) [(.slot 85)]),
  xM 15 84,
  xM 16 86]
def r5_18 : List XLine := [xM 87 13,
  xM 88 14,
  xL 89 (.bin .neq 28 .num (.slot 87) (.slot 88)),
  xM 90 89,
  ⟨⟨.mv (.slot 7), some 91, some (90, false)⟩, []⟩,
  ⟨⟨.call (.const (.func 22 [] [])) [(.slot 91)], some 92, some (90, false)⟩, []⟩,
  ⟨⟨.mv (.slot 9), some 93, some (90, false)⟩, []⟩,
  ⟨⟨.call (.const (.func 22 [] [])) [(.slot 93)], some 94, some (90, false)⟩, []⟩,
  ⟨⟨.bin .neq 4 .bool (.slot 92) (.slot 94), some 95, some (90, false)⟩, []⟩,
  xL 96 (.pick (.slot 90) (.const (.bool true)) (.slot 95)),
  xM 97 96,
  ⟨⟨.mv (.slot 15), some 98, some (97, false)⟩, []⟩,
  ⟨⟨.len .slice (.slot 98), some 99, some (97, false)⟩, []⟩,
  ⟨⟨.mv (.slot 16), some 100, some (97, false)⟩, []⟩,
  ⟨⟨.len .slice (.slot 100), some 101, some (97, false)⟩, []⟩,
  ⟨⟨.bin .neq 3 .num (.slot 99) (.slot 101), some 102, some (97, false)⟩, []⟩,
  xL 103 (.pick (.slot 97) (.const (.bool true)) (.slot 102))]
def r5_19 : List XLine := [xL 4 (.mv (.const (.bool false)))]
def r5_20 : List XLine := [xL 17 (.mv (.const (.int .i64 (.ofNat 0))))]
def r5_21 : List XLine := [xM 104 17,
  xM 105 15,
  xL 106 (.len .slice (.slot 105)),
  xL 107 (.bin .lss 3 .num (.slot 104) (.slot 106))]
def r5_22 : List XLine := [xM 110 15,
  xM 111 17,
  xL 112 (.iaddr 1 (.slot 110) (.slot 111)),
  xL 113 (.load false 1 (.slot 112)),
  xM 114 16,
  xM 115 17,
  xL 116 (.iaddr 1 (.slot 114) (.slot 115)),
  xL 117 (.load false 1 (.slot 116)),
  xL 118 (.bin .neq 2 .num (.slot 113) (.slot 117))]
def r5_23 : List XLine := [xL 4 (.mv (.const (.bool false)))]
def r5_24 : List XLine := [xM 108 17,
  xL 109 (.bin .add 3 .num (.slot 108) (.const (.int .i64 (.ofNat 1)))),
  xM 17 109]
def r5_25 : List XLine := [xM 64 11,
  xL 65 (.bin .add 3 .num (.slot 64) (.const (.int .i64 (.ofNat 1)))),
  xM 11 65]
def r5_26 : List XLine := [xL 119 (.call (.const (.func 8 [] [])) []),
  xM 4 119]
def xf5 : XFunc := ⟨(.seq (.region false r5_0)
  (.seq (.seq (.region false r5_1)
  (.cond (.slot 20)
  (.seq (.region false r5_2)
  .ret)
  .skip))
  (.seq (.region false r5_3)
  (.seq (.seq (.region false r5_4)
  (.block 0 (.loop (.seq (.seq (.region false r5_5)
  (.cond (.slot 29)
  .skip
  (.exit 0)))
  (.seq (.block 1 (.region true r5_6))
  (.region false r5_7))))))
  (.seq (.region false r5_8)
  (.seq (.region false r5_9)
  (.seq (.seq (.region false r5_10)
  (.cond (.slot 55)
  (.seq (.region false r5_11)
  .ret)
  .skip))
  (.seq (.seq (.region false r5_12)
  (.block 2 (.loop (.seq (.seq (.region false r5_13)
  (.cond (.slot 63)
  .skip
  (.exit 2)))
  (.seq (.block 3 (.seq (.region false r5_14)
  (.seq (.region false r5_15)
  (.seq (.region true r5_16)
  (.seq (.region false r5_17)
  (.seq (.seq (.region false r5_18)
  (.cond (.slot 103)
  (.seq (.region false r5_19)
  .ret)
  .skip))
  (.seq (.region false r5_20)
  (.block 4 (.loop (.seq (.seq (.region false r5_21)
  (.cond (.slot 107)
  .skip
  (.exit 4)))
  (.seq (.block 5 (.seq (.region true r5_22)
  (.cond (.slot 118)
  (.seq (.region false r5_23)
  .ret)
  .skip)))
  (.region false r5_24))))))))))))
  (.region false r5_25))))))
  (.seq (.region false r5_26)
  .ret))))))))),
  [.tmp 4]⟩
theorem xf5_ok : compFunc Try.prog Try.f5 = some xf5 := by kernel_rfl
def r6_0 : List XLine := [xL 2 (.box (.slot 0)),
  xL 4 (.mv (.const (.bool false)))]
def r6_1 : List XLine := [xL 18 (.load true 2 (.slot 2)),
  xM 19 1,
  xL 20 (.call (.const (.func 7 [] [])) [(.slot 18), (.slot 19)]),
  xM 21 20,
  ⟨⟨.load true 2 (.slot 2), some 22, some (21, false)⟩, []⟩,
  ⟨⟨.mv (.slot 1), some 23, some (21, false)⟩, []⟩,
  ⟨⟨.call (.const (.func 23 [] [])) [(.slot 22), (.slot 23)], some 24, some (21, false)⟩, []⟩,
  ⟨⟨.un .not (.slot 24), some 25, some (21, false)⟩, []⟩,
  xL 26 (.pick (.slot 21) (.const (.bool true)) (.slot 25)),
  xM 27 26,
  ⟨⟨.mv (.slot 1), some 28, some (27, false)⟩, []⟩,
  ⟨⟨.len .slice (.slot 28), some 29, some (27, false)⟩, []⟩,
  ⟨⟨.bin .gtr 3 .num (.slot 29) (.const (.int .i64 (.ofNat 60))), some 30, some (27, false)⟩, []⟩,
  xL 31 (.pick (.slot 27) (.const (.bool true)) (.slot 30)),
  xM 32 31,
  ⟨⟨.faddr 1 (.slot 2), some 33, some (32, false)⟩, []⟩,
  ⟨⟨.load false 1 (.slot 33), some 34, some (32, false)⟩, []⟩,
  ⟨⟨.len .slice (.slot 34), some 35, some (32, false)⟩, []⟩,
  ⟨⟨.bin .gtr 3 .num (.slot 35) (.const (.int .i64 (.ofNat 60))), some 36, some (32, false)⟩, []⟩,
  xL 37 (.pick (.slot 32) (.const (.bool true)) (.slot 36))]
def r6_2 : List XLine := [xL 38 (.call (.const (.func 8 [] [])) []),
  xM 4 38]
def r6_3 : List XLine := [xL 40 (.load true 2 (.slot 2)),
  xL 41 (.call (.const (.func 13 [] [])) [(.slot 40)]),
  xM 39 41,
  xL 42 (.extract (.slot 39) 0),
  xL 43 (.extract (.slot 39) 1),
  xM 5 42,
  xM 6 43]
def r6_4 : List XLine := [xM 44 6,
  xL 45 (.bin .neq 28 .num (.slot 44) (.const (.int .i64 (.ofNat 0))))]
def r6_5 : List XLine := [xL 46 (.call (.const (.func 8 [] [])) []),
  xM 4 46]
def r6_6 : List XLine := [xL 48 (.load true 2 (.slot 2)),
  xL 49 (.call (.const (.func 24 [] [])) [(.slot 48)]),
  xM 47 49,
  xL 50 (.extract (.slot 47) 0),
  xL 51 (.extract (.slot 47) 1),
  xL 52 (.extract (.slot 47) 2),
  xM 7 50,
  xM 8 51,
  xM 9 52]
def r6_7 : List XLine := [xM 53 9,
  xL 54 (.bin .neq 28 .num (.slot 53) (.const (.int .i64 (.ofNat 0))))]
def r6_8 : List XLine := [xL 4 (.mv (.const (.bool false)))]
def r6_9 : List XLine := [xL 10 (.mv (.const (.int .i64 (.ofNat 0))))]
def r6_10 : List XLine := [xM 55 10,
  xM 56 1,
  xL 57 (.len .slice (.slot 56)),
  xL 58 (.bin .lss 3 .num (.slot 55) (.slot 57))]
def r6_11 : List XLine := [xM 61 5,
  xL 62 (.call (.const (.func 25 [] [])) [(.slot 61)]),
  xL 11 (.alloc [(.int .i64 (.ofNat 0)), .nils]),
  ⟨⟨.store 2 (.slot 11) (.slot 62), none, none⟩, []⟩]
def r6_12 : List XLine := [xM 63 5,
  xM 64 1,
  xM 65 10,
  xL 66 (.iaddr 4 (.slot 64) (.slot 65)),
  xL 67 (.load true 4 (.slot 66)),
  xL 68 (.call (.const (.func 14 [] [])) [(.slot 63), (.slot 67)]),
  xL 69 (.bin .neq 28 .num (.slot 68) (.const (.int .i64 (.ofNat 0))))]
def r6_13 : List XLine := [xM 70 1,
  xM 71 10,
  xL 72 (.iaddr 4 (.slot 70) (.slot 71)),
  xL 73 (.faddr 0 (.slot 72)),
  xL 74 (.load false 1 (.slot 73)),
  xL 75 (.bin .eql 5 .num (.slot 74) (.const (.int .u8 (.ofNat 1)))),
  xM 76 75,
  ⟨⟨.mv (.slot 1), some 77, some (76, true)⟩, []⟩,
  ⟨⟨.mv (.slot 10), some 78, some (76, true)⟩, []⟩,
  ⟨⟨.iaddr 4 (.slot 77) (.slot 78), some 79, some (76, true)⟩, []⟩,
  ⟨⟨.faddr 3 (.slot 79), some 80, some (76, true)⟩, []⟩,
  ⟨⟨.load false 1 (.slot 80), some 81, some (76, true)⟩, []⟩,
  ⟨⟨.call (.const (.func 12 [] [])) [(.slot 81)], some 82, some (76, true)⟩, []⟩,
  xL 83 (.pick (.slot 76) (.slot 82) (.const (.bool false))),
  xM 84 83,
  ⟨⟨.mv (.slot 1), some 85, some (84, true)⟩, []⟩,
  ⟨⟨.mv (.slot 10), some 86, some (84, true)⟩, []⟩,
  ⟨⟨.iaddr 4 (.slot 85) (.slot 86), some 87, some (84, true)⟩, []⟩,
  ⟨⟨.faddr 3 (.slot 87), some 88, some (84, true)⟩, []⟩,
  ⟨⟨.load false 1 (.slot 88), some 89, some (84, true)⟩, []⟩,
  ⟨⟨.len .slice (.slot 89), some 90, some (84, true)⟩, []⟩,
  ⟨⟨.bin .gtr 3 .num (.slot 90) (.const (.int .i64 (.ofNat 0))), some 91, some (84, true)⟩, []⟩,
  xL 92 (.pick (.slot 84) (.slot 91) (.const (.bool false))),
  xM 93 92,
  ⟨⟨.mv (.slot 5), some 94, some (93, true)⟩, []⟩,
  ⟨⟨.call (.const (.func 22 [] [])) [(.slot 94)], some 95, some (93, true)⟩, []⟩,
  xL 96 (.pick (.slot 93) (.slot 95) (.const (.bool false)))]
def r6_14 : List XLine := [xL 98 (.load true 2 (.slot 11)),
  xL 99 (.call (.const (.func 24 [] [])) [(.slot 98)]),
  xM 97 99,
  xL 100 (.extract (.slot 97) 0),
  xL 101 (.extract (.slot 97) 1),
  xL 102 (.extract (.slot 97) 2),
  xM 12 100,
  xM 13 101,
  xM 14 102]
def r6_15 : List XLine := [xM 103 13]
def r6_16 : List XLine := [xL 4 (.mv (.const (.bool false)))]
def r6_17 : List XLine := [xM 104 5,
  xL 105 (.call (.const (.func 22 [] [])) [(.slot 104)])]
def r6_18 : List XLine := [xM 106 8,
  xL 107 (.un .not (.slot 106)),
  xM 108 107,
  ⟨⟨.call (.const (.func 8 [] [])) [], some 109, some (108, true)⟩, []⟩,
  xL 110 (.pick (.slot 108) (.slot 109) (.const (.bool false))),
  xM 4 110]
def r6_19 : List XLine := [xM 59 10,
  xL 60 (.bin .add 3 .num (.slot 59) (.const (.int .i64 (.ofNat 1)))),
  xM 10 60]
def r6_20 : List XLine := [xM 112 5,
  xL 113 (.call (.const (.func 25 [] [])) [(.slot 112)]),
  xL 114 (.call (.const (.func 24 [] [])) [(.slot 113)]),
  xM 111 114,
  xL 115 (.extract (.slot 111) 0),
  xL 116 (.extract (.slot 111) 1),
  xL 117 (.extract (.slot 111) 2),
  xM 15 115,
  xM 16 116,
  xM 17 117]
def r6_21 : List XLine := [xM 118 17,
  xL 119 (.bin .eql 28 .num (.slot 118) (.const (.int .i64 (.ofNat 0)))),
  xM 120 119,
  ⟨⟨.mv (.slot 8), some 121, some (120, true)⟩, []⟩,
  ⟨⟨.un .not (.slot 121), some 122, some (120, true)⟩, []⟩,
  ⟨⟨.mv (.slot 122), some 123, some (120, true)⟩, []⟩,
  ⟨⟨.mv (.slot 16), some 124, some (123, false)⟩, []⟩,
  ⟨⟨.pick (.slot 123) (.const (.bool true)) (.slot 124), some 125, some (120, true)⟩, []⟩,
  xL 126 (.pick (.slot 120) (.slot 125) (.const (.bool false))),
  xM 127 126,
  ⟨⟨.call (.const (.func 8 [] [])) [], some 128, some (127, true)⟩, []⟩,
  xL 129 (.pick (.slot 127) (.slot 128) (.const (.bool false))),
  xM 4 129]
def xf6 : XFunc := ⟨(.seq (.region false r6_0)
  (.seq (.seq (.region false r6_1)
  (.cond (.slot 37)
  (.seq (.region false r6_2)
  .ret)
  .skip))
  (.seq (.region false r6_3)
  (.seq (.seq (.region false r6_4)
  (.cond (.slot 45)
  (.seq (.region false r6_5)
  .ret)
  .skip))
  (.seq (.region false r6_6)
  (.seq (.seq (.region false r6_7)
  (.cond (.slot 54)
  (.seq (.region false r6_8)
  .ret)
  .skip))
  (.seq (.seq (.region false r6_9)
  (.block 0 (.loop (.seq (.seq (.region false r6_10)
  (.cond (.slot 58)
  .skip
  (.exit 0)))
  (.seq (.block 1 (.seq (.region false r6_11)
  (.seq (.seq (.region false r6_12)
  (.cond (.slot 69)
  (.exit 1)
  .skip))
  (.seq (.seq (.region false r6_13)
  (.cond (.slot 96)
  (.seq (.region false r6_14)
  (.seq (.region false r6_15)
  (.cond (.slot 103)
  (.seq (.region false r6_16)
  .ret)
  .skip)))
  .skip))
  (.seq (.region false r6_17)
  (.cond (.slot 105)
  (.seq (.region false r6_18)
  .ret)
  .skip))))))
  (.region false r6_19))))))
  (.seq (.region false r6_20)
  (.seq (.region false r6_21)
  .ret))))))))),
  [.tmp 4]⟩
theorem xf6_ok : compFunc Try.prog Try.f6 = some xf6 := by kernel_rfl
def r7_0 : List XLine := [xL 2 (.box (.slot 0)),
  xL 4 (.mv (.const (.bool false)))]
def r7_1 : List XLine := [xL 5 (.mv (.const (.int .i64 (.ofNat 0))))]
def r7_2 : List XLine := [xL 6 (.mv (.const (.int .i64 (.ofNat 0))))]
def r7_3 : List XLine := [xM 7 6,
  xL 8 (.faddr 1 (.slot 2)),
  xL 9 (.load false 1 (.slot 8)),
  xL 10 (.len .slice (.slot 9)),
  xL 11 (.bin .lss 3 .num (.slot 7) (.slot 10)),
  xM 12 11,
  ⟨⟨.mv (.slot 5), some 13, some (12, true)⟩, []⟩,
  ⟨⟨.bin .leq 3 .num (.slot 13) (.const (.int .i64 (.ofNat 1500))), some 14, some (12, true)⟩, []⟩,
  xL 15 (.pick (.slot 12) (.slot 14) (.const (.bool false)))]
def r7_4 : List XLine := [xM 18 5,
  xL 19 (.bin .add 3 .num (.slot 18) (.const (.int .i64 (.ofNat 1)))),
  xL 20 (.faddr 1 (.slot 2)),
  xL 21 (.load false 1 (.slot 20)),
  xM 22 6,
  xL 23 (.iaddr 1 (.slot 21) (.slot 22)),
  xL 24 (.load false 1 (.slot 23)),
  xL 25 (.len .slice (.slot 24)),
  xL 26 (.minmax true (.slot 25) (.const (.int .i64 (.ofNat 1500)))),
  xL 27 (.bin .add 3 .num (.slot 19) (.slot 26)),
  xM 5 27]
def r7_5 : List XLine := [xM 16 6,
  xL 17 (.bin .add 3 .num (.slot 16) (.const (.int .i64 (.ofNat 1)))),
  xM 6 17]
def r7_6 : List XLine := [xM 28 5,
  xL 29 (.bin .gtr 3 .num (.slot 28) (.const (.int .i64 (.ofNat 1500)))),
  xM 30 29,
  ⟨⟨.faddr 1 (.slot 2), some 31, some (30, false)⟩, []⟩,
  ⟨⟨.load false 1 (.slot 31), some 32, some (30, false)⟩, []⟩,
  ⟨⟨.len .slice (.slot 32), some 33, some (30, false)⟩, []⟩,
  ⟨⟨.bin .gtr 3 .num (.slot 33) (.const (.int .i64 (.ofNat 200))), some 34, some (30, false)⟩, []⟩,
  xL 35 (.pick (.slot 30) (.const (.bool true)) (.slot 34)),
  xM 36 35,
  ⟨⟨.mv (.slot 1), some 37, some (36, false)⟩, []⟩,
  ⟨⟨.call (.const (.func 26 [] [])) [(.slot 37), (.const (.int .i64 (.ofNat 1500)))], some 38, some (36, false)⟩, []⟩,
  ⟨⟨.bin .gtr 3 .num (.slot 38) (.const (.int .i64 (.ofNat 1500))), some 39, some (36, false)⟩, []⟩,
  xL 40 (.pick (.slot 36) (.const (.bool true)) (.slot 39)),
  xM 4 40]
def xf7 : XFunc := ⟨(.seq (.region false r7_0)
  (.seq (.region false r7_1)
  (.seq (.seq (.region false r7_2)
  (.block 0 (.loop (.seq (.seq (.region false r7_3)
  (.cond (.slot 15)
  .skip
  (.exit 0)))
  (.seq (.block 1 (.region false r7_4))
  (.region false r7_5))))))
  (.seq (.region false r7_6)
  .ret)))),
  [.tmp 4]⟩
theorem xf7_ok : compFunc Try.prog Try.f7 = some xf7 := by kernel_rfl
def r8_0 : List XLine := [xL 0 (.mv (.const (.bool false)))]
def r8_1 : List XLine := [xL 5 (.call (.const (.func 27 [] [])) []),
  xL 6 (.bslice 1 [(.int .i32 (.ofNat 0))] [(0, 1, (.const (.int .i32 (.ofNat 1))))] 1),
  xL 7 (.bslice 1 [(.int .i64 (.ofNat 0)), (.int .i64 (.ofNat 0))] [(0, 1, (.const (.int .i64 (.ofNat 1)))), (1, 1, (.const (.int .i64 (.ofNat 2))))] 2),
  xL 8 (.call (.const (.func 11 [] [])) [(.const (.int .i64 (.ofNat 5))), (.slot 6), (.slot 7)]),
  xL 9 (.bslice 1 [(.int .i64 (.ofNat 0)), (.int .i64 (.ofNat 0)), (.int .i64 (.ofNat 0))] [(0, 1, (.const (.int .i64 (.ofNat 5)))), (1, 1, (.const (.int .i64 (.ofNat 3)))), (2, 1, (.const (.int .i64 (.ofNat 4))))] 3),
  xL 10 (.call (.const (.func 11 [] [])) [(.const (.int .i64 (.ofNat 6))), (.const .nils), (.slot 9)]),
  xL 11 (.bslice 4 [(.int .u8 (.ofNat 0)), (.int .i64 (.ofNat 0)), .nils, .nils, (.int .u8 (.ofNat 0)), (.int .i64 (.ofNat 0)), .nils, .nils] [(0, 4, (.slot 8)), (4, 4, (.slot 10))] 2),
  xL 12 (.call (.const (.func 9 [] [])) [(.slot 5), (.slot 11)]),
  xM 4 12,
  xL 13 (.extract (.slot 4) 0),
  xL 14 (.extract (.slot 4) 1),
  xL 15 (.extract (.slot 4) 2),
  xM 1 13,
  xM 2 14,
  xM 3 15]
def r8_2 : List XLine := [xM 16 1,
  xM 17 16,
  ⟨⟨.mv (.slot 2), some 18, some (17, true)⟩, []⟩,
  ⟨⟨.bin .eql 3 .num (.slot 18) (.const (.int .i64 (.ofNat 2))), some 19, some (17, true)⟩, []⟩,
  xL 20 (.pick (.slot 17) (.slot 19) (.const (.bool false))),
  xM 21 20,
  ⟨⟨.mv (.slot 3), some 22, some (21, true)⟩, []⟩,
  ⟨⟨.bin .eql 28 .num (.slot 22) (.const (.int .i64 (.ofNat 0))), some 23, some (21, true)⟩, []⟩,
  xL 24 (.pick (.slot 21) (.slot 23) (.const (.bool false))),
  xM 0 24]
def xf8 : XFunc := ⟨(.seq (.region false r8_0)
  (.seq (.region false r8_1)
  (.seq (.region false r8_2)
  .ret))),
  [.tmp 0]⟩
theorem xf8_ok : compFunc Try.prog Try.f8 = some xf8 := by kernel_rfl
def r9_0 : List XLine := [xL 2 (.box (.slot 0)),
  xL 4 (.mv (.const (.bool false))),
  xL 5 (.mv (.const (.int .i64 (.ofNat 0)))),
  xL 6 (.mv (.const (.int .i64 (.ofNat 0))))]
def r9_1 : List XLine := [xL 12 (.load true 2 (.slot 2)),
  xL 13 (.call (.const (.func 13 [] [])) [(.slot 12)]),
  xM 11 13,
  xL 14 (.extract (.slot 11) 0),
  xL 15 (.extract (.slot 11) 1),
  xM 7 14,
  xM 8 15]
def r9_2 : List XLine := [xM 16 8,
  xL 17 (.bin .neq 28 .num (.slot 16) (.const (.int .i64 (.ofNat 0))))]
def r9_3 : List XLine := [xM 18 8,
  xL 4 (.mv (.const (.bool false))),
  xL 5 (.mv (.const (.int .i64 (.ofNat 0)))),
  xM 6 18]
def r9_4 : List XLine := [xL 9 (.mv (.const (.int .i64 (.ofNat 0))))]
def r9_5 : List XLine := [xM 19 9,
  xM 20 1,
  xL 21 (.len .slice (.slot 20)),
  xL 22 (.bin .lss 3 .num (.slot 19) (.slot 21)),
  xM 23 22,
  ⟨⟨.mv (.slot 7), some 24, some (23, true)⟩, []⟩,
  ⟨⟨.nilCheck (.slot 24), some 25, some (23, true)⟩, []⟩,
  ⟨⟨.faddr 3 (.slot 25), some 26, some (23, true)⟩, []⟩,
  ⟨⟨.load false 1 (.slot 26), some 27, some (23, true)⟩, []⟩,
  ⟨⟨.un .not (.slot 27), some 28, some (23, true)⟩, []⟩,
  xL 29 (.pick (.slot 23) (.slot 28) (.const (.bool false)))]
def r9_6 : List XLine := [xM 32 7,
  xM 33 1,
  xM 34 9,
  xL 35 (.iaddr 4 (.slot 33) (.slot 34)),
  xL 36 (.load true 4 (.slot 35)),
  xL 37 (.call (.const (.func 14 [] [])) [(.slot 32), (.slot 36)]),
  xM 10 37]
def r9_7 : List XLine := [xM 38 10,
  xL 39 (.bin .neq 28 .num (.slot 38) (.const (.int .i64 (.ofNat 0))))]
def r9_8 : List XLine := [xM 40 9,
  xM 41 10,
  xL 4 (.mv (.const (.bool false))),
  xM 5 40,
  xM 6 41]
def r9_9 : List XLine := [xM 30 9,
  xL 31 (.bin .add 3 .num (.slot 30) (.const (.int .i64 (.ofNat 1)))),
  xM 9 31]
def r9_10 : List XLine := [xM 42 7,
  xL 43 (.nilCheck (.slot 42)),
  xL 44 (.faddr 3 (.slot 43)),
  xL 45 (.load false 1 (.slot 44)),
  xM 46 9,
  xM 4 45,
  xM 5 46,
  xL 6 (.mv (.const (.int .i64 (.ofNat 0))))]
def xf9 : XFunc := ⟨(.seq (.region false r9_0)
  (.seq (.region false r9_1)
  (.seq (.seq (.region false r9_2)
  (.cond (.slot 17)
  (.seq (.region false r9_3)
  .ret)
  .skip))
  (.seq (.region false r9_4)
  (.seq (.block 0 (.loop (.seq (.seq (.region false r9_5)
  (.cond (.slot 29)
  .skip
  (.exit 0)))
  (.seq (.block 1 (.seq (.region false r9_6)
  (.seq (.region false r9_7)
  (.cond (.slot 39)
  (.seq (.region false r9_8)
  .ret)
  .skip))))
  (.region false r9_9)))))
  (.seq (.region false r9_10)
  .ret)))))),
  [.tmp 4, .tmp 5, .tmp 6]⟩
theorem xf9_ok : compFunc Try.prog Try.f9 = some xf9 := by kernel_rfl
def r10_0 : List XLine := [xL 2 (.box (.slot 0)),
  xL 4 (.mv (.const (.bool false))),
  xL 5 (.mv (.const (.int .i64 (.ofNat 0)))),
  xL 6 (.mv (.const (.int .i64 (.ofNat 0))))]
def r10_1 : List XLine := [xL 11 (.load true 2 (.slot 2)),
  xL 12 (.call (.const (.func 28 [] [])) [(.slot 11)]),
  xM 10 12,
  xL 13 (.extract (.slot 10) 0),
  xL 14 (.extract (.slot 10) 1),
  xM 7 13,
  xM 8 14]
def r10_2 : List XLine := [xM 15 8,
  xL 16 (.bin .neq 28 .num (.slot 15) (.const (.int .i64 (.ofNat 0))))]
def r10_3 : List XLine := [xM 17 8,
  xL 4 (.mv (.const (.bool false))),
  xL 5 (.mv (.const (.int .i64 (.ofNat 0)))),
  xM 6 17]
def r10_4 : List XLine := [xL 9 (.mv (.const (.int .i64 (.ofNat 0))))]
def r10_5 : List XLine := [xM 18 9,
  xM 19 1,
  xL 20 (.len .slice (.slot 19)),
  xL 21 (.bin .lss 3 .num (.slot 18) (.slot 20)),
  xM 22 21,
  ⟨⟨.mv (.slot 7), some 23, some (22, true)⟩, []⟩,
  ⟨⟨.nilCheck (.slot 23), some 24, some (22, true)⟩, []⟩,
  ⟨⟨.faddr 2 (.slot 24), some 25, some (22, true)⟩, []⟩,
  ⟨⟨.load false 1 (.slot 25), some 26, some (22, true)⟩, []⟩,
  ⟨⟨.un .not (.slot 26), some 27, some (22, true)⟩, []⟩,
  xL 28 (.pick (.slot 22) (.slot 27) (.const (.bool false)))]
def r10_6 : List XLine := [xM 31 7,
  xM 32 1,
  xM 33 9,
  xL 34 (.iaddr 4 (.slot 32) (.slot 33)),
  xL 35 (.load true 4 (.slot 34)),
  xL 36 (.call (.const (.func 29 [] [])) [(.slot 31), (.slot 35)]),
  xM 8 36]
def r10_7 : List XLine := [xM 37 8,
  xL 38 (.bin .neq 28 .num (.slot 37) (.const (.int .i64 (.ofNat 0))))]
def r10_8 : List XLine := [xM 39 9,
  xM 40 8,
  xL 4 (.mv (.const (.bool false))),
  xM 5 39,
  xM 6 40]
def r10_9 : List XLine := [xM 41 7,
  xL 42 (.nilCheck (.slot 41)),
  xL 43 (.faddr 2 (.slot 42)),
  xL 44 (.load false 1 (.slot 43))]
def r10_10 : List XLine := [xM 45 9,
  xL 46 (.bin .add 3 .num (.slot 45) (.const (.int .i64 (.ofNat 1)))),
  xL 4 (.mv (.const (.bool true))),
  xM 5 46,
  xL 6 (.mv (.const (.int .i64 (.ofNat 0))))]
def r10_11 : List XLine := [xM 29 9,
  xL 30 (.bin .add 3 .num (.slot 29) (.const (.int .i64 (.ofNat 1)))),
  xM 9 30]
def r10_12 : List XLine := [xM 47 7,
  xL 48 (.nilCheck (.slot 47)),
  xL 49 (.faddr 2 (.slot 48)),
  xL 50 (.load false 1 (.slot 49))]
def r10_13 : List XLine := [xL 4 (.mv (.const (.bool true))),
  xL 5 (.mv (.const (.int .i64 (.ofNat 0)))),
  xL 6 (.mv (.const (.int .i64 (.ofNat 0))))]
def r10_14 : List XLine := [xM 51 1,
  xL 52 (.len .slice (.slot 51)),
  xL 4 (.mv (.const (.bool false))),
  xM 5 52,
  xL 6 (.mv (.const (.int .i64 (.ofNat 0))))]
def xf10 : XFunc := ⟨(.seq (.region false r10_0)
  (.seq (.region false r10_1)
  (.seq (.seq (.region false r10_2)
  (.cond (.slot 16)
  (.seq (.region false r10_3)
  .ret)
  .skip))
  (.seq (.seq (.region false r10_4)
  (.block 0 (.loop (.seq (.seq (.region false r10_5)
  (.cond (.slot 28)
  .skip
  (.exit 0)))
  (.seq (.block 1 (.seq (.region false r10_6)
  (.seq (.seq (.region false r10_7)
  (.cond (.slot 38)
  (.seq (.region false r10_8)
  .ret)
  .skip))
  (.seq (.region false r10_9)
  (.cond (.slot 44)
  (.seq (.region false r10_10)
  .ret)
  .skip)))))
  (.region false r10_11))))))
  (.seq (.seq (.region false r10_12)
  (.cond (.slot 50)
  (.seq (.region false r10_13)
  .ret)
  .skip))
  (.seq (.region false r10_14)
  .ret)))))),
  [.tmp 4, .tmp 5, .tmp 6]⟩
theorem xf10_ok : compFunc Try.prog Try.f10 = some xf10 := by kernel_rfl
def r11_0 : List XLine := [xL 6 (.alloc [(.int .u8 (.ofNat 0)), (.int .i64 (.ofNat 0)), .nils, .nils])]
def r11_1 : List XLine := [xM 7 0,
  xM 8 1,
  xM 9 2,
  xL 10 (.build [(.int .u8 (.ofNat 0)), (.int .i64 (.ofNat 0)), .nils, .nils] [(0, 1, (.const (.int .u8 (.ofNat 1)))), (1, 1, (.slot 7)), (2, 1, (.slot 8)), (3, 1, (.slot 9))]),
  ⟨⟨.store 4 (.slot 6) (.slot 10), none, none⟩, []⟩]
def xf11 : XFunc := ⟨(.seq (.region false r11_0)
  (.seq (.region false r11_1)
  .ret)),
  [.cell 6 true 4]⟩
theorem xf11_ok : compFunc Try.prog Try.f11 = some xf11 := by kernel_rfl
def r12_0 : List XLine := [xL 2 (.mv (.const (.bool false)))]
def r12_1 : List XLine := [xL 3 (.mv (.const (.int .i64 (.ofNat 0))))]
def r12_2 : List XLine := [xM 4 3,
  xM 5 0,
  xL 6 (.len .slice (.slot 5)),
  xL 7 (.bin .lss 3 .num (.slot 4) (.slot 6))]
def r12_3 : List XLine := [xM 10 0,
  xM 11 3,
  xL 12 (.iaddr 1 (.slot 10) (.slot 11)),
  xL 13 (.load false 1 (.slot 12)),
  xL 14 (.bin .lss 2 .num (.slot 13) (.const (.int .i64 (.ofNat 0))))]
def r12_4 : List XLine := [xL 2 (.mv (.const (.bool false)))]
def r12_5 : List XLine := [xM 8 3,
  xL 9 (.bin .add 3 .num (.slot 8) (.const (.int .i64 (.ofNat 1)))),
  xM 3 9]
def r12_6 : List XLine := [xL 2 (.mv (.const (.bool true)))]
def xf12 : XFunc := ⟨(.seq (.region false r12_0)
  (.seq (.seq (.region false r12_1)
  (.block 0 (.loop (.seq (.seq (.region false r12_2)
  (.cond (.slot 7)
  .skip
  (.exit 0)))
  (.seq (.block 1 (.seq (.region false r12_3)
  (.cond (.slot 14)
  (.seq (.region false r12_4)
  .ret)
  .skip)))
  (.region false r12_5))))))
  (.seq (.region false r12_6)
  .ret))),
  [.tmp 2]⟩
theorem xf12_ok : compFunc Try.prog Try.f12 = some xf12 := by kernel_rfl
def r13_0 : List XLine := [xL 1 (.box (.slot 0)),
  xL 2 (.mv (.const .nilp)),
  xL 3 (.mv (.const (.int .i64 (.ofNat 0))))]
def r13_1 : List XLine := [xL 8 (.load true 2 (.slot 1)),
  xL 9 (.call (.const (.func 30 [] [])) [(.slot 8)]),
  xM 4 9]
def r13_2 : List XLine := [xM 10 4,
  xL 11 (.bin .neq 28 .num (.slot 10) (.const (.int .i64 (.ofNat 0))))]
def r13_3 : List XLine := [xM 12 4,
  xL 2 (.mv (.const .nilp)),
  xM 3 12]
def r13_4 : List XLine := [xL 13 (.mkmap .i64),
  xL 14 (.build [.nilm, (.int .i64 (.ofNat 0)), (.int .i64 (.ofNat 0)), (.bool false), .nils, .nils] [(0, 1, (.slot 13))]),
  xL 15 (.box (.slot 14)),
  xM 5 15]
def r13_5 : List XLine := [xL 16 (.faddr 1 (.slot 1)),
  xL 17 (.load false 1 (.slot 16)),
  xL 18 (.len .slice (.slot 17)),
  xL 19 (.mv (.const (.int .i64 (.ofNat 0))))]
def r13_6 : List XLine := [xL 20 (.bin .lss 3 .num (.slot 19) (.slot 18))]
def r13_7 : List XLine := [xM 21 19,
  xL 22 (.iaddr 1 (.slot 17) (.slot 19)),
  xL 23 (.load false 1 (.slot 22)),
  xM 6 21,
  xM 7 23]
def r13_8 : List XLine := [xM 24 5,
  xM 25 6,
  xL 26 (.bin .add 3 .num (.slot 25) (.const (.int .i64 (.ofNat 1)))),
  xM 27 7,
  xL 28 (.call (.const (.func 31 [] [])) [(.slot 24), (.slot 26), (.slot 27)])]
def r13_9 : List XLine := [xL 29 (.bin .add 3 .num (.slot 19) (.const (.int .i64 (.ofNat 1)))),
  xM 19 29]
def r13_10 : List XLine := [xM 30 5,
  xM 2 30,
  xL 3 (.mv (.const (.int .i64 (.ofNat 0))))]
def xf13 : XFunc := ⟨(.seq (.region false r13_0)
  (.seq (.seq (.region false r13_1)
  (.seq (.region false r13_2)
  (.cond (.slot 11)
  (.seq (.region false r13_3)
  .ret)
  .skip)))
  (.seq (.region false r13_4)
  (.seq (.seq (.region false r13_5)
  (.block 0 (.loop (.seq (.region false r13_6)
  (.seq (.cond (.slot 20)
  .skip
  (.exit 0))
  (.seq (.block 1 (.seq (.region false r13_7)
  (.region false r13_8)))
  (.region false r13_9)))))))
  (.seq (.region false r13_10)
  .ret))))),
  [.tmp 2, .tmp 3]⟩
theorem xf13_ok : compFunc Try.prog Try.f13 = some xf13 := by kernel_rfl
def r14_0 : List XLine := [xL 3 (.box (.slot 1)),
  xL 4 (.mv (.const (.int .i64 (.ofNat 0))))]
def r14_1 : List XLine := [xM 7 0,
  xL 8 (.bin .eql 38 .ptr (.slot 7) (.const .nilp)),
  xM 6 8]
def r14_2 : List XLine := [xL 4 (.mv (.const (.int .i64 (.ofNat 1))))]
def r14_3 : List XLine := [xL 10 (.load true 4 (.slot 3)),
  xL 11 (.call (.const (.func 32 [] [])) [(.slot 10)]),
  xL 12 (.un .not (.slot 11)),
  xM 9 12]
def r14_4 : List XLine := [xL 4 (.mv (.const (.int .i64 (.ofNat 40))))]
def r14_5 : List XLine := [xL 14 (.faddr 0 (.slot 3)),
  xL 15 (.load false 1 (.slot 14)),
  xL 16 (.bin .eql 5 .num (.slot 15) (.const (.int .u8 (.ofNat 2)))),
  xM 13 16]
def r14_6 : List XLine := [xM 17 0,
  xL 18 (.faddr 3 (.slot 3)),
  xL 19 (.load false 1 (.slot 18)),
  xL 20 (.call (.const (.func 33 [] [])) [(.slot 17), (.slot 19)]),
  xM 4 20]
def r14_7 : List XLine := [xL 22 (.faddr 1 (.slot 3)),
  xL 23 (.load false 1 (.slot 22)),
  xM 24 0,
  xL 25 (.nilCheck (.slot 24)),
  xL 26 (.faddr 1 (.slot 25)),
  xL 27 (.load false 1 (.slot 26)),
  xL 28 (.bin .leq 2 .num (.slot 23) (.slot 27)),
  xM 21 28]
def r14_8 : List XLine := [xL 4 (.mv (.const (.int .i64 (.ofNat 62))))]
def r14_9 : List XLine := [xM 29 0,
  xL 30 (.faddr 2 (.slot 3)),
  xL 31 (.load false 1 (.slot 30)),
  xL 32 (.faddr 3 (.slot 3)),
  xL 33 (.load false 1 (.slot 32)),
  xL 34 (.call (.const (.func 34 [] [])) [(.slot 29), (.slot 31), (.slot 33)]),
  xM 5 34]
def r14_10 : List XLine := [xM 35 5,
  xL 36 (.bin .neq 28 .num (.slot 35) (.const (.int .i64 (.ofNat 0))))]
def r14_11 : List XLine := [xM 37 5,
  xM 4 37]
def r14_12 : List XLine := [xM 38 0,
  xL 39 (.nilCheck (.slot 38)),
  xL 40 (.faddr 2 (.slot 39)),
  xL 41 (.load false 1 (.slot 40)),
  xL 42 (.faddr 2 (.slot 3)),
  xL 43 (.load false 1 (.slot 42)),
  xL 44 (.len .slice (.slot 43)),
  xL 45 (.bin .add 3 .num (.slot 41) (.slot 44)),
  xL 46 (.bin .gtr 3 .num (.slot 45) (.const (.int .i64 (.ofNat 16777216))))]
def r14_13 : List XLine := [xL 4 (.mv (.const (.int .i64 (.ofNat 3))))]
def r14_14 : List XLine := [xM 47 0,
  xL 48 (.faddr 1 (.slot 3)),
  xL 49 (.load false 1 (.slot 48)),
  xL 50 (.faddr 2 (.slot 3)),
  xL 51 (.load false 1 (.slot 50)),
  xL 52 (.call (.const (.func 31 [] [])) [(.slot 47), (.slot 49), (.slot 51)])]
def r14_15 : List XLine := [xL 4 (.mv (.const (.int .i64 (.ofNat 0))))]
def xf14 : XFunc := ⟨(.seq (.region false r14_0)
  (.seq (.block 0 (.seq (.region false r14_1)
  (.cond (.slot 6)
  (.seq (.region false r14_2)
  .ret)
  (.seq (.region false r14_3)
  (.cond (.slot 9)
  (.seq (.region false r14_4)
  .ret)
  (.seq (.region false r14_5)
  (.cond (.slot 13)
  (.seq (.region false r14_6)
  .ret)
  (.seq (.region true r14_7)
  (.cond (.slot 21)
  (.seq (.region false r14_8)
  .ret)
  .skip)))))))))
  (.seq (.seq (.region false r14_9)
  (.seq (.region false r14_10)
  (.cond (.slot 36)
  (.seq (.region false r14_11)
  .ret)
  .skip)))
  (.seq (.seq (.region true r14_12)
  (.cond (.slot 46)
  (.seq (.region false r14_13)
  .ret)
  .skip))
  (.seq (.region false r14_14)
  (.seq (.region false r14_15)
  .ret)))))),
  [.tmp 4]⟩
theorem xf14_ok : compFunc Try.prog Try.f14 = some xf14 := by kernel_rfl
def r15_0 : List XLine := [xL 4 (.mv (.const .nils))]
def r15_1 : List XLine := [xL 5 (.mv (.const .nils))]
def r15_2 : List XLine := [xL 6 (.mv (.const (.int .i64 (.ofNat 0))))]
def r15_3 : List XLine := [xM 7 6,
  xM 8 0,
  xL 9 (.bin .lss 3 .num (.slot 7) (.slot 8))]
def r15_4 : List XLine := [xM 12 5,
  xM 13 1,
  xM 14 6,
  xL 15 (.bin .shr 3 .num (.slot 13) (.slot 14)),
  xL 16 (.bin .and 3 .num (.slot 15) (.const (.int .i64 (.ofNat 1)))),
  xL 17 (.bin .eql 3 .num (.slot 16) (.const (.int .i64 (.ofNat 1)))),
  xL 18 (.bslice 1 [(.bool false)] [(0, 1, (.slot 17))] 1),
  xL 19 (.append 1 1 (.slot 12) (.slot 18)),
  xM 5 19]
def r15_5 : List XLine := [xM 10 6,
  xL 11 (.bin .add 3 .num (.slot 10) (.const (.int .i64 (.ofNat 1)))),
  xM 6 11]
def r15_6 : List XLine := [xM 20 5,
  xM 4 20]
def xf15 : XFunc := ⟨(.seq (.region false r15_0)
  (.seq (.region false r15_1)
  (.seq (.seq (.region false r15_2)
  (.block 0 (.loop (.seq (.seq (.region false r15_3)
  (.cond (.slot 9)
  .skip
  (.exit 0)))
  (.seq (.block 1 (.region false r15_4))
  (.region false r15_5))))))
  (.seq (.region false r15_6)
  .ret)))),
  [.tmp 4]⟩
theorem xf15_ok : compFunc Try.prog Try.f15 = some xf15 := by kernel_rfl
def r16_0 : List XLine := [xL 2 (.box (.slot 0)),
  xL 4 (.mv (.const (.bool false)))]
def r16_1 : List XLine := [xL 5 (.mv (.const (.int .i64 (.ofNat 0))))]
def r16_2 : List XLine := [xM 6 5,
  xL 7 (.faddr 1 (.slot 2)),
  xL 8 (.load false 1 (.slot 7)),
  xL 9 (.len .slice (.slot 8)),
  xL 10 (.bin .lss 3 .num (.slot 6) (.slot 9))]
def r16_3 : List XLine := [xL 13 (.faddr 1 (.slot 2)),
  xL 14 (.load false 1 (.slot 13)),
  xM 15 5,
  xL 16 (.iaddr 1 (.slot 14) (.slot 15)),
  xL 17 (.load false 1 (.slot 16)),
  xM 18 1,
  xL 19 (.call (.const (.func 17 [] [])) [(.slot 17), (.slot 18)]),
  xL 20 (.un .not (.slot 19))]
def r16_4 : List XLine := [xL 4 (.mv (.const (.bool false)))]
def r16_5 : List XLine := [xM 11 5,
  xL 12 (.bin .add 3 .num (.slot 11) (.const (.int .i64 (.ofNat 1)))),
  xM 5 12]
def r16_6 : List XLine := [xL 4 (.mv (.const (.bool true)))]
def xf16 : XFunc := ⟨(.seq (.region false r16_0)
  (.seq (.seq (.region false r16_1)
  (.block 0 (.loop (.seq (.seq (.region false r16_2)
  (.cond (.slot 10)
  .skip
  (.exit 0)))
  (.seq (.block 1 (.seq (.region false r16_3)
  (.cond (.slot 20)
  (.seq (.region false r16_4)
  .ret)
  .skip)))
  (.region false r16_5))))))
  (.seq (.region false r16_6)
  .ret))),
  [.tmp 4]⟩
theorem xf16_ok : compFunc Try.prog Try.f16 = some xf16 := by kernel_rfl
def r17_0 : List XLine := [xL 4 (.mv (.const (.bool false)))]
def r17_1 : List XLine := [xL 5 (.mv (.const (.int .i64 (.ofNat 0))))]
def r17_2 : List XLine := [xM 6 5,
  xM 7 0,
  xL 8 (.len .slice (.slot 7)),
  xL 9 (.bin .lss 3 .num (.slot 6) (.slot 8))]
def r17_3 : List XLine := [xM 12 0,
  xM 13 5,
  xL 14 (.iaddr 1 (.slot 12) (.slot 13)),
  xL 15 (.load false 1 (.slot 14)),
  xM 16 1,
  xL 17 (.call (.const (.func 35 [] [])) [(.slot 15), (.slot 16)])]
def r17_4 : List XLine := [xL 4 (.mv (.const (.bool true)))]
def r17_5 : List XLine := [xM 10 5,
  xL 11 (.bin .add 3 .num (.slot 10) (.const (.int .i64 (.ofNat 1)))),
  xM 5 11]
def r17_6 : List XLine := [xL 4 (.mv (.const (.bool false)))]
def xf17 : XFunc := ⟨(.seq (.region false r17_0)
  (.seq (.seq (.region false r17_1)
  (.block 0 (.loop (.seq (.seq (.region false r17_2)
  (.cond (.slot 9)
  .skip
  (.exit 0)))
  (.seq (.block 1 (.seq (.region false r17_3)
  (.cond (.slot 17)
  (.seq (.region false r17_4)
  .ret)
  .skip)))
  (.region false r17_5))))))
  (.seq (.region false r17_6)
  .ret))),
  [.tmp 4]⟩
theorem xf17_ok : compFunc Try.prog Try.f17 = some xf17 := by kernel_rfl
def r18_0 : List XLine := [xL 4 (.mv (.const (.bool false)))]
def r18_1 : List XLine := [xL 5 (.mv (.const (.int .i64 (.ofNat 0))))]
def r18_2 : List XLine := [xM 6 5,
  xM 7 0,
  xL 8 (.len .slice (.slot 7)),
  xL 9 (.bin .lss 3 .num (.slot 6) (.slot 8))]
def r18_3 : List XLine := [xM 12 0,
  xM 13 5,
  xL 14 (.iaddr 1 (.slot 12) (.slot 13)),
  xL 15 (.load false 1 (.slot 14)),
  xL 16 (.call (.const (.func 36 [] [])) [(.slot 15)]),
  xM 17 1,
  xL 18 (.bin .gtr 3 .num (.slot 16) (.slot 17))]
def r18_4 : List XLine := [xL 4 (.mv (.const (.bool false)))]
def r18_5 : List XLine := [xM 10 5,
  xL 11 (.bin .add 3 .num (.slot 10) (.const (.int .i64 (.ofNat 1)))),
  xM 5 11]
def r18_6 : List XLine := [xL 4 (.mv (.const (.bool true)))]
def xf18 : XFunc := ⟨(.seq (.region false r18_0)
  (.seq (.seq (.region false r18_1)
  (.block 0 (.loop (.seq (.seq (.region false r18_2)
  (.cond (.slot 9)
  .skip
  (.exit 0)))
  (.seq (.block 1 (.seq (.region false r18_3)
  (.cond (.slot 18)
  (.seq (.region false r18_4)
  .ret)
  .skip)))
  (.region false r18_5))))))
  (.seq (.region false r18_6)
  .ret))),
  [.tmp 4]⟩
theorem xf18_ok : compFunc Try.prog Try.f18 = some xf18 := by kernel_rfl
def r19_0 : List XLine := [xL 2 (.box (.slot 0)),
  xL 4 (.mv (.const (.bool false)))]
def r19_1 : List XLine := [xL 5 (.mv (.const (.int .i64 (.ofNat 0))))]
def r19_2 : List XLine := [xM 6 5,
  xL 7 (.faddr 1 (.slot 2)),
  xL 8 (.load false 1 (.slot 7)),
  xL 9 (.len .slice (.slot 8)),
  xL 10 (.bin .lss 3 .num (.slot 6) (.slot 9)),
  xM 11 10,
  ⟨⟨.mv (.slot 1), some 12, some (11, true)⟩, []⟩,
  ⟨⟨.len .slice (.slot 12), some 13, some (11, true)⟩, []⟩,
  ⟨⟨.bin .gtr 3 .num (.slot 13) (.const (.int .i64 (.ofNat 0))), some 14, some (11, true)⟩, []⟩,
  xL 15 (.pick (.slot 11) (.slot 14) (.const (.bool false)))]
def r19_3 : List XLine := [xL 18 (.faddr 1 (.slot 2)),
  xL 19 (.load false 1 (.slot 18)),
  xM 20 5,
  xL 21 (.iaddr 1 (.slot 19) (.slot 20)),
  xL 22 (.load false 1 (.slot 21)),
  xM 23 1,
  xL 24 (.iaddr 1 (.slot 23) (.const (.int .i64 (.ofNat 0)))),
  xL 25 (.load false 1 (.slot 24)),
  xL 26 (.un .neg (.slot 25)),
  xL 27 (.call (.const (.func 37 [] [])) [(.slot 22), (.slot 26)])]
def r19_4 : List XLine := [xL 4 (.mv (.const (.bool false)))]
def r19_5 : List XLine := [xM 16 5,
  xL 17 (.bin .add 3 .num (.slot 16) (.const (.int .i64 (.ofNat 1)))),
  xM 5 17]
def r19_6 : List XLine := [xM 28 1,
  xL 29 (.len .slice (.slot 28)),
  xL 30 (.bin .gtr 3 .num (.slot 29) (.const (.int .i64 (.ofNat 0)))),
  xM 4 30]
def xf19 : XFunc := ⟨(.seq (.region false r19_0)
  (.seq (.seq (.region false r19_1)
  (.block 0 (.loop (.seq (.seq (.region false r19_2)
  (.cond (.slot 15)
  .skip
  (.exit 0)))
  (.seq (.block 1 (.seq (.region true r19_3)
  (.cond (.slot 27)
  (.seq (.region false r19_4)
  .ret)
  .skip)))
  (.region false r19_5))))))
  (.seq (.region false r19_6)
  .ret))),
  [.tmp 4]⟩
theorem xf19_ok : compFunc Try.prog Try.f19 = some xf19 := by kernel_rfl
def r20_0 : List XLine := [xL 2 (.mv (.const .nils))]
def r20_1 : List XLine := [xL 3 (.mv (.const .nils))]
def r20_2 : List XLine := [xM 4 3,
  xM 5 0,
  xL 6 (.append 1 4 (.slot 4) (.slot 5)),
  xM 3 6]
def r20_3 : List XLine := [xM 7 3,
  xM 8 0,
  xL 9 (.append 1 4 (.slot 7) (.slot 8)),
  xM 3 9]
def r20_4 : List XLine := [xM 10 3,
  xM 2 10]
def xf20 : XFunc := ⟨(.seq (.region false r20_0)
  (.seq (.region false r20_1)
  (.seq (.region false r20_2)
  (.seq (.region false r20_3)
  (.seq (.region false r20_4)
  .ret))))),
  [.tmp 2]⟩
theorem xf20_ok : compFunc Try.prog Try.f20 = some xf20 := by kernel_rfl
end Go.Proofs.Ytmkbnbpblhoekaa

/- The functions of the program in X's code, printed by a program of ours. -/
import Derived.Test.YtmkbnbpblhoekaaProg
import Derived.Test.YtmkbnbpblhoekaaW0
import Derived.KernelRfl
namespace Go.Proofs.Ytmkbnbpblhoekaa
open Go.Xr
def r5_0 : List XLine := [xL 2 (.box (.slot 0)),
  xL 4 (.mv (.const (.bool false)))]
def r5_1 : List XLine := [xL 18 (.load true 2 (.slot 2)),
  xM 19 1,
  xL 20 (.call (.const (.func 7 [] [])) [(.slot 18), (.slot 19)])]
def r5_2 : List XLine := [xL 21 (.call (.const (.func 8 [] [])) []),
  xM 4 21]
def r5_3 : List XLine := [xL 22 (.faddr 0 (.slot 2)),
  xL 23 (.load false 1 (.slot 22)),
  xL 24 (.build [(.int .i64 (.ofNat 0)), .nils] [(0, 1, (.slot 23))]),
  xL 5 (.alloc [(.int .i64 (.ofNat 0)), .nils]),
  ⟨⟨.store 2 (.slot 5) (.slot 24), none, none⟩, []⟩]
def r5_4 : List XLine := [xL 6 (.mv (.const (.int .i64 (.ofNat 0))))]
def r5_5 : List XLine := [xM 25 6,
  xL 26 (.faddr 1 (.slot 2)),
  xL 27 (.load false 1 (.slot 26)),
  xL 28 (.len .slice (.slot 27)),
  xL 29 (.bin .lss 3 .num (.slot 25) (.slot 28))]
def r5_6 : List XLine := [xL 32 (.faddr 1 (.slot 5)),
  xL 33 (.load false 1 (.slot 32)),
  xL 34 (.faddr 1 (.slot 2)),
  xL 35 (.load false 1 (.slot 34)),
  xM 36 6,
  xL 37 (.iaddr 1 (.slot 35) (.slot 36)),
  xL 38 (.load false 1 (.slot 37)),
  ⟨⟨.call (.const (.func 20 [] [])) [(.slot 38)], some 39, none⟩, [⟨.load false 1 (.slot 32), some 33, none⟩]⟩,
  ⟨⟨.bslice 1 [.nils] [(0, 1, (.slot 39))] 1, some 40, none⟩, [⟨.load false 1 (.slot 32), some 33, none⟩]⟩,
  xL 41 (.append 1 24 (.slot 33) (.slot 40)),
  xL 42 (.faddr 1 (.slot 5)),
  ⟨⟨.store 1 (.slot 42) (.slot 41), none, none⟩, []⟩]
def r5_7 : List XLine := [xM 30 6,
  xL 31 (.bin .add 3 .num (.slot 30) (.const (.int .i64 (.ofNat 1)))),
  xM 6 31]
def r5_8 : List XLine := [xL 44 (.load true 2 (.slot 2)),
  xL 45 (.call (.const (.func 13 [] [])) [(.slot 44)]),
  xM 43 45,
  xL 46 (.extract (.slot 43) 0),
  xL 47 (.extract (.slot 43) 1),
  xM 7 46,
  xM 8 47]
def r5_9 : List XLine := [xL 49 (.load true 2 (.slot 5)),
  xL 50 (.call (.const (.func 13 [] [])) [(.slot 49)]),
  xM 48 50,
  xL 51 (.extract (.slot 48) 0),
  xL 52 (.extract (.slot 48) 1),
  xM 9 51,
  xM 10 52]
def r5_10 : List XLine := [xM 53 8,
  xM 54 10,
  xL 55 (.bin .neq 28 .num (.slot 53) (.slot 54))]
def r5_11 : List XLine := [xL 4 (.mv (.const (.bool false)))]
def r5_12 : List XLine := [xL 11 (.mv (.const (.int .i64 (.ofNat 0))))]
def r5_13 : List XLine := [xM 56 11,
  xM 57 1,
  xL 58 (.len .slice (.slot 57)),
  xL 59 (.bin .lss 3 .num (.slot 56) (.slot 58)),
  xM 60 59,
  ⟨⟨.mv (.slot 8), some 61, some (60, true)⟩, []⟩,
  ⟨⟨.bin .eql 28 .num (.slot 61) (.const (.int .i64 (.ofNat 0))), some 62, some (60, true)⟩, []⟩,
  xL 63 (.pick (.slot 60) (.slot 62) (.const (.bool false)))]
def r5_14 : List XLine := [xM 66 1,
  xM 67 11,
  xL 68 (.iaddr 4 (.slot 66) (.slot 67)),
  xL 69 (.load true 4 (.slot 68)),
  xL 12 (.alloc [(.int .u8 (.ofNat 0)), (.int .i64 (.ofNat 0)), .nils, .nils]),
  ⟨⟨.store 4 (.slot 12) (.slot 69), none, none⟩, []⟩]
def r5_15 : List XLine := [xL 70 (.faddr 2 (.slot 12)),
  xL 71 (.load false 1 (.slot 70)),
  xL 72 (.call (.const (.func 20 [] [])) [(.slot 71)]),
  xL 73 (.faddr 2 (.slot 12)),
  ⟨⟨.store 1 (.slot 73) (.slot 72), none, none⟩, []⟩]
def r5_16 : List XLine := [xM 74 7,
  xM 75 1,
  xM 76 11,
  xL 77 (.iaddr 4 (.slot 75) (.slot 76)),
  xL 78 (.load true 4 (.slot 77)),
  xM 80 9,
  xL 81 (.load true 4 (.slot 12)),
  ⟨⟨.call (.const (.func 14 [] [])) [(.slot 74), (.slot 78)], some 79, none⟩, [⟨.load true 4 (.slot 12), some 81, none⟩]⟩,
  xL 82 (.call (.const (.func 14 [] [])) [(.slot 80), (.slot 81)]),
  xM 13 79,
  xM 14 82]
def r5_17 : List XLine := [xM 83 7,
  xL 84 (.call (.const (.func 21 [] [])) [(.slot 83)]),
  xM 85 9,
  xL 86 (.call (.const (.func 21 [] [])) [(.slot 85)]),
  xM 15 84,
  xM 16 86]
def r5_18 : List XLine := [xM 87 13,
  xM 88 14,
  xL 89 (.bin .neq 28 .num (.slot 87) (.slot 88)),
  xM 90 89,
  ⟨⟨.mv (.slot 7), some 91, some (90, false)⟩, []⟩,
  ⟨⟨.call (.const (.func 22 [] [])) [(.slot 91)], some 92, some (90, false)⟩, []⟩,
  ⟨⟨.mv (.slot 9), some 93, some (90, false)⟩, []⟩,
  ⟨⟨.call (.const (.func 22 [] [])) [(.slot 93)], some 94, some (90, false)⟩, []⟩,
  ⟨⟨.bin .neq 4 .bool (.slot 92) (.slot 94), some 95, some (90, false)⟩, []⟩,
  xL 96 (.pick (.slot 90) (.const (.bool true)) (.slot 95)),
  xM 97 96,
  ⟨⟨.mv (.slot 15), some 98, some (97, false)⟩, []⟩,
  ⟨⟨.len .slice (.slot 98), some 99, some (97, false)⟩, []⟩,
  ⟨⟨.mv (.slot 16), some 100, some (97, false)⟩, []⟩,
  ⟨⟨.len .slice (.slot 100), some 101, some (97, false)⟩, []⟩,
  ⟨⟨.bin .neq 3 .num (.slot 99) (.slot 101), some 102, some (97, false)⟩, []⟩,
  xL 103 (.pick (.slot 97) (.const (.bool true)) (.slot 102))]
def r5_19 : List XLine := [xL 4 (.mv (.const (.bool false)))]
def r5_20 : List XLine := [xL 17 (.mv (.const (.int .i64 (.ofNat 0))))]
def r5_21 : List XLine := [xM 104 17,
  xM 105 15,
  xL 106 (.len .slice (.slot 105)),
  xL 107 (.bin .lss 3 .num (.slot 104) (.slot 106))]
def r5_22 : List XLine := [xM 110 15,
  xM 111 17,
  xL 112 (.iaddr 1 (.slot 110) (.slot 111)),
  xL 113 (.load false 1 (.slot 112)),
  xM 114 16,
  xM 115 17,
  xL 116 (.iaddr 1 (.slot 114) (.slot 115)),
  xL 117 (.load false 1 (.slot 116)),
  xL 118 (.bin .neq 2 .num (.slot 113) (.slot 117))]
def r5_23 : List XLine := [xL 4 (.mv (.const (.bool false)))]
def r5_24 : List XLine := [xM 108 17,
  xL 109 (.bin .add 3 .num (.slot 108) (.const (.int .i64 (.ofNat 1)))),
  xM 17 109]
def r5_25 : List XLine := [xM 64 11,
  xL 65 (.bin .add 3 .num (.slot 64) (.const (.int .i64 (.ofNat 1)))),
  xM 11 65]
def r5_26 : List XLine := [xL 119 (.call (.const (.func 8 [] [])) []),
  xM 4 119]
def xf5 : XFunc := ⟨(.seq (.region false r5_0)
  (.seq (.seq (.region false r5_1)
  (.cond (.slot 20)
  (.seq (.region false r5_2)
  .ret)
  .skip))
  (.seq (.region false r5_3)
  (.seq (.seq (.region false r5_4)
  (.block 0 (.loop (.seq (.seq (.region false r5_5)
  (.cond (.slot 29)
  .skip
  (.exit 0)))
  (.seq (.block 1 (.region true r5_6))
  (.region false r5_7))))))
  (.seq (.region false r5_8)
  (.seq (.region false r5_9)
  (.seq (.seq (.region false r5_10)
  (.cond (.slot 55)
  (.seq (.region false r5_11)
  .ret)
  .skip))
  (.seq (.seq (.region false r5_12)
  (.block 2 (.loop (.seq (.seq (.region false r5_13)
  (.cond (.slot 63)
  .skip
  (.exit 2)))
  (.seq (.block 3 (.seq (.region false r5_14)
  (.seq (.region false r5_15)
  (.seq (.region true r5_16)
  (.seq (.region false r5_17)
  (.seq (.seq (.region false r5_18)
  (.cond (.slot 103)
  (.seq (.region false r5_19)
  .ret)
  .skip))
  (.seq (.region false r5_20)
  (.block 4 (.loop (.seq (.seq (.region false r5_21)
  (.cond (.slot 107)
  .skip
  (.exit 4)))
  (.seq (.block 5 (.seq (.region true r5_22)
  (.cond (.slot 118)
  (.seq (.region false r5_23)
  .ret)
  .skip)))
  (.region false r5_24))))))))))))
  (.region false r5_25))))))
  (.seq (.region false r5_26)
  .ret))))))))),
  [.tmp 4]⟩
theorem xf5_ok : compFunc Try.prog Try.f5 = some xf5 := by kernel_rfl
def r7_0 : List XLine := [xL 2 (.box (.slot 0)),
  xL 4 (.mv (.const (.bool false)))]
def r7_1 : List XLine := [xL 5 (.mv (.const (.int .i64 (.ofNat 0))))]
def r7_2 : List XLine := [xL 6 (.mv (.const (.int .i64 (.ofNat 0))))]
def r7_3 : List XLine := [xM 7 6,
  xL 8 (.faddr 1 (.slot 2)),
  xL 9 (.load false 1 (.slot 8)),
  xL 10 (.len .slice (.slot 9)),
  xL 11 (.bin .lss 3 .num (.slot 7) (.slot 10)),
  xM 12 11,
  ⟨⟨.mv (.slot 5), some 13, some (12, true)⟩, []⟩,
  ⟨⟨.bin .leq 3 .num (.slot 13) (.const (.int .i64 (.ofNat 1500))), some 14, some (12, true)⟩, []⟩,
  xL 15 (.pick (.slot 12) (.slot 14) (.const (.bool false)))]
def r7_4 : List XLine := [xM 18 5,
  xL 19 (.bin .add 3 .num (.slot 18) (.const (.int .i64 (.ofNat 1)))),
  xL 20 (.faddr 1 (.slot 2)),
  xL 21 (.load false 1 (.slot 20)),
  xM 22 6,
  xL 23 (.iaddr 1 (.slot 21) (.slot 22)),
  xL 24 (.load false 1 (.slot 23)),
  xL 25 (.len .slice (.slot 24)),
  xL 26 (.minmax true (.slot 25) (.const (.int .i64 (.ofNat 1500)))),
  xL 27 (.bin .add 3 .num (.slot 19) (.slot 26)),
  xM 5 27]
def r7_5 : List XLine := [xM 16 6,
  xL 17 (.bin .add 3 .num (.slot 16) (.const (.int .i64 (.ofNat 1)))),
  xM 6 17]
def r7_6 : List XLine := [xM 28 5,
  xL 29 (.bin .gtr 3 .num (.slot 28) (.const (.int .i64 (.ofNat 1500)))),
  xM 30 29,
  ⟨⟨.faddr 1 (.slot 2), some 31, some (30, false)⟩, []⟩,
  ⟨⟨.load false 1 (.slot 31), some 32, some (30, false)⟩, []⟩,
  ⟨⟨.len .slice (.slot 32), some 33, some (30, false)⟩, []⟩,
  ⟨⟨.bin .gtr 3 .num (.slot 33) (.const (.int .i64 (.ofNat 200))), some 34, some (30, false)⟩, []⟩,
  xL 35 (.pick (.slot 30) (.const (.bool true)) (.slot 34)),
  xM 36 35,
  ⟨⟨.mv (.slot 1), some 37, some (36, false)⟩, []⟩,
  ⟨⟨.call (.const (.func 26 [] [])) [(.slot 37), (.const (.int .i64 (.ofNat 1500)))], some 38, some (36, false)⟩, []⟩,
  ⟨⟨.bin .gtr 3 .num (.slot 38) (.const (.int .i64 (.ofNat 1500))), some 39, some (36, false)⟩, []⟩,
  xL 40 (.pick (.slot 36) (.const (.bool true)) (.slot 39)),
  xM 4 40]
def xf7 : XFunc := ⟨(.seq (.region false r7_0)
  (.seq (.region false r7_1)
  (.seq (.seq (.region false r7_2)
  (.block 0 (.loop (.seq (.seq (.region false r7_3)
  (.cond (.slot 15)
  .skip
  (.exit 0)))
  (.seq (.block 1 (.region false r7_4))
  (.region false r7_5))))))
  (.seq (.region false r7_6)
  .ret)))),
  [.tmp 4]⟩
theorem xf7_ok : compFunc Try.prog Try.f7 = some xf7 := by kernel_rfl
def r8_0 : List XLine := [xL 0 (.mv (.const (.bool false)))]
def r8_1 : List XLine := [xL 5 (.call (.const (.func 27 [] [])) []),
  xL 6 (.bslice 1 [(.int .i32 (.ofNat 0))] [(0, 1, (.const (.int .i32 (.ofNat 1))))] 1),
  xL 7 (.bslice 1 [(.int .i64 (.ofNat 0)), (.int .i64 (.ofNat 0))] [(0, 1, (.const (.int .i64 (.ofNat 1)))), (1, 1, (.const (.int .i64 (.ofNat 2))))] 2),
  xL 8 (.call (.const (.func 11 [] [])) [(.const (.int .i64 (.ofNat 5))), (.slot 6), (.slot 7)]),
  xL 9 (.bslice 1 [(.int .i64 (.ofNat 0)), (.int .i64 (.ofNat 0)), (.int .i64 (.ofNat 0))] [(0, 1, (.const (.int .i64 (.ofNat 5)))), (1, 1, (.const (.int .i64 (.ofNat 3)))), (2, 1, (.const (.int .i64 (.ofNat 4))))] 3),
  xL 10 (.call (.const (.func 11 [] [])) [(.const (.int .i64 (.ofNat 6))), (.const .nils), (.slot 9)]),
  xL 11 (.bslice 4 [(.int .u8 (.ofNat 0)), (.int .i64 (.ofNat 0)), .nils, .nils, (.int .u8 (.ofNat 0)), (.int .i64 (.ofNat 0)), .nils, .nils] [(0, 4, (.slot 8)), (4, 4, (.slot 10))] 2),
  xL 12 (.call (.const (.func 9 [] [])) [(.slot 5), (.slot 11)]),
  xM 4 12,
  xL 13 (.extract (.slot 4) 0),
  xL 14 (.extract (.slot 4) 1),
  xL 15 (.extract (.slot 4) 2),
  xM 1 13,
  xM 2 14,
  xM 3 15]
def r8_2 : List XLine := [xM 16 1,
  xM 17 16,
  ⟨⟨.mv (.slot 2), some 18, some (17, true)⟩, []⟩,
  ⟨⟨.bin .eql 3 .num (.slot 18) (.const (.int .i64 (.ofNat 2))), some 19, some (17, true)⟩, []⟩,
  xL 20 (.pick (.slot 17) (.slot 19) (.const (.bool false))),
  xM 21 20,
  ⟨⟨.mv (.slot 3), some 22, some (21, true)⟩, []⟩,
  ⟨⟨.bin .eql 28 .num (.slot 22) (.const (.int .i64 (.ofNat 0))), some 23, some (21, true)⟩, []⟩,
  xL 24 (.pick (.slot 21) (.slot 23) (.const (.bool false))),
  xM 0 24]
def xf8 : XFunc := ⟨(.seq (.region false r8_0)
  (.seq (.region false r8_1)
  (.seq (.region false r8_2)
  .ret))),
  [.tmp 0]⟩
theorem xf8_ok : compFunc Try.prog Try.f8 = some xf8 := by kernel_rfl
def r9_0 : List XLine := [xL 2 (.box (.slot 0)),
  xL 4 (.mv (.const (.bool false))),
  xL 5 (.mv (.const (.int .i64 (.ofNat 0)))),
  xL 6 (.mv (.const (.int .i64 (.ofNat 0))))]
def r9_1 : List XLine := [xL 12 (.load true 2 (.slot 2)),
  xL 13 (.call (.const (.func 13 [] [])) [(.slot 12)]),
  xM 11 13,
  xL 14 (.extract (.slot 11) 0),
  xL 15 (.extract (.slot 11) 1),
  xM 7 14,
  xM 8 15]
def r9_2 : List XLine := [xM 16 8,
  xL 17 (.bin .neq 28 .num (.slot 16) (.const (.int .i64 (.ofNat 0))))]
def r9_3 : List XLine := [xM 18 8,
  xL 4 (.mv (.const (.bool false))),
  xL 5 (.mv (.const (.int .i64 (.ofNat 0)))),
  xM 6 18]
def r9_4 : List XLine := [xL 9 (.mv (.const (.int .i64 (.ofNat 0))))]
def r9_5 : List XLine := [xM 19 9,
  xM 20 1,
  xL 21 (.len .slice (.slot 20)),
  xL 22 (.bin .lss 3 .num (.slot 19) (.slot 21)),
  xM 23 22,
  ⟨⟨.mv (.slot 7), some 24, some (23, true)⟩, []⟩,
  ⟨⟨.nilCheck (.slot 24), some 25, some (23, true)⟩, []⟩,
  ⟨⟨.faddr 3 (.slot 25), some 26, some (23, true)⟩, []⟩,
  ⟨⟨.load false 1 (.slot 26), some 27, some (23, true)⟩, []⟩,
  ⟨⟨.un .not (.slot 27), some 28, some (23, true)⟩, []⟩,
  xL 29 (.pick (.slot 23) (.slot 28) (.const (.bool false)))]
def r9_6 : List XLine := [xM 32 7,
  xM 33 1,
  xM 34 9,
  xL 35 (.iaddr 4 (.slot 33) (.slot 34)),
  xL 36 (.load true 4 (.slot 35)),
  xL 37 (.call (.const (.func 14 [] [])) [(.slot 32), (.slot 36)]),
  xM 10 37]
def r9_7 : List XLine := [xM 38 10,
  xL 39 (.bin .neq 28 .num (.slot 38) (.const (.int .i64 (.ofNat 0))))]
def r9_8 : List XLine := [xM 40 9,
  xM 41 10,
  xL 4 (.mv (.const (.bool false))),
  xM 5 40,
  xM 6 41]
def r9_9 : List XLine := [xM 30 9,
  xL 31 (.bin .add 3 .num (.slot 30) (.const (.int .i64 (.ofNat 1)))),
  xM 9 31]
def r9_10 : List XLine := [xM 42 7,
  xL 43 (.nilCheck (.slot 42)),
  xL 44 (.faddr 3 (.slot 43)),
  xL 45 (.load false 1 (.slot 44)),
  xM 46 9,
  xM 4 45,
  xM 5 46,
  xL 6 (.mv (.const (.int .i64 (.ofNat 0))))]
def xf9 : XFunc := ⟨(.seq (.region false r9_0)
  (.seq (.region false r9_1)
  (.seq (.seq (.region false r9_2)
  (.cond (.slot 17)
  (.seq (.region false r9_3)
  .ret)
  .skip))
  (.seq (.region false r9_4)
  (.seq (.block 0 (.loop (.seq (.seq (.region false r9_5)
  (.cond (.slot 29)
  .skip
  (.exit 0)))
  (.seq (.block 1 (.seq (.region false r9_6)
  (.seq (.region false r9_7)
  (.cond (.slot 39)
  (.seq (.region false r9_8)
  .ret)
  .skip))))
  (.region false r9_9)))))
  (.seq (.region false r9_10)
  .ret)))))),
  [.tmp 4, .tmp 5, .tmp 6]⟩
theorem xf9_ok : compFunc Try.prog Try.f9 = some xf9 := by kernel_rfl
def r11_0 : List XLine := [xL 6 (.alloc [(.int .u8 (.ofNat 0)), (.int .i64 (.ofNat 0)), .nils, .nils])]
def r11_1 : List XLine := [xM 7 0,
  xM 8 1,
  xM 9 2,
  xL 10 (.build [(.int .u8 (.ofNat 0)), (.int .i64 (.ofNat 0)), .nils, .nils] [(0, 1, (.const (.int .u8 (.ofNat 1)))), (1, 1, (.slot 7)), (2, 1, (.slot 8)), (3, 1, (.slot 9))]),
  ⟨⟨.store 4 (.slot 6) (.slot 10), none, none⟩, []⟩]
def xf11 : XFunc := ⟨(.seq (.region false r11_0)
  (.seq (.region false r11_1)
  .ret)),
  [.cell 6 true 4]⟩
theorem xf11_ok : compFunc Try.prog Try.f11 = some xf11 := by kernel_rfl
def r13_0 : List XLine := [xL 1 (.box (.slot 0)),
  xL 2 (.mv (.const .nilp)),
  xL 3 (.mv (.const (.int .i64 (.ofNat 0))))]
def r13_1 : List XLine := [xL 8 (.load true 2 (.slot 1)),
  xL 9 (.call (.const (.func 30 [] [])) [(.slot 8)]),
  xM 4 9]
def r13_2 : List XLine := [xM 10 4,
  xL 11 (.bin .neq 28 .num (.slot 10) (.const (.int .i64 (.ofNat 0))))]
def r13_3 : List XLine := [xM 12 4,
  xL 2 (.mv (.const .nilp)),
  xM 3 12]
def r13_4 : List XLine := [xL 13 (.mkmap .i64),
  xL 14 (.build [.nilm, (.int .i64 (.ofNat 0)), (.int .i64 (.ofNat 0)), (.bool false), .nils, .nils] [(0, 1, (.slot 13))]),
  xL 15 (.box (.slot 14)),
  xM 5 15]
def r13_5 : List XLine := [xL 16 (.faddr 1 (.slot 1)),
  xL 17 (.load false 1 (.slot 16)),
  xL 18 (.len .slice (.slot 17)),
  xL 19 (.mv (.const (.int .i64 (.ofNat 0))))]
def r13_6 : List XLine := [xL 20 (.bin .lss 3 .num (.slot 19) (.slot 18))]
def r13_7 : List XLine := [xM 21 19,
  xL 22 (.iaddr 1 (.slot 17) (.slot 19)),
  xL 23 (.load false 1 (.slot 22)),
  xM 6 21,
  xM 7 23]
def r13_8 : List XLine := [xM 24 5,
  xM 25 6,
  xL 26 (.bin .add 3 .num (.slot 25) (.const (.int .i64 (.ofNat 1)))),
  xM 27 7,
  xL 28 (.call (.const (.func 31 [] [])) [(.slot 24), (.slot 26), (.slot 27)])]
def r13_9 : List XLine := [xL 29 (.bin .add 3 .num (.slot 19) (.const (.int .i64 (.ofNat 1)))),
  xM 19 29]
def r13_10 : List XLine := [xM 30 5,
  xM 2 30,
  xL 3 (.mv (.const (.int .i64 (.ofNat 0))))]
def xf13 : XFunc := ⟨(.seq (.region false r13_0)
  (.seq (.seq (.region false r13_1)
  (.seq (.region false r13_2)
  (.cond (.slot 11)
  (.seq (.region false r13_3)
  .ret)
  .skip)))
  (.seq (.region false r13_4)
  (.seq (.seq (.region false r13_5)
  (.block 0 (.loop (.seq (.region false r13_6)
  (.seq (.cond (.slot 20)
  .skip
  (.exit 0))
  (.seq (.block 1 (.seq (.region false r13_7)
  (.region false r13_8)))
  (.region false r13_9)))))))
  (.seq (.region false r13_10)
  .ret))))),
  [.tmp 2, .tmp 3]⟩
theorem xf13_ok : compFunc Try.prog Try.f13 = some xf13 := by kernel_rfl
def r14_0 : List XLine := [xL 3 (.box (.slot 1)),
  xL 4 (.mv (.const (.int .i64 (.ofNat 0))))]
def r14_1 : List XLine := [xM 7 0,
  xL 8 (.bin .eql 38 .ptr (.slot 7) (.const .nilp)),
  xM 6 8]
def r14_2 : List XLine := [xL 4 (.mv (.const (.int .i64 (.ofNat 1))))]
def r14_3 : List XLine := [xL 10 (.load true 4 (.slot 3)),
  xL 11 (.call (.const (.func 32 [] [])) [(.slot 10)]),
  xL 12 (.un .not (.slot 11)),
  xM 9 12]
def r14_4 : List XLine := [xL 4 (.mv (.const (.int .i64 (.ofNat 40))))]
def r14_5 : List XLine := [xL 14 (.faddr 0 (.slot 3)),
  xL 15 (.load false 1 (.slot 14)),
  xL 16 (.bin .eql 5 .num (.slot 15) (.const (.int .u8 (.ofNat 2)))),
  xM 13 16]
def r14_6 : List XLine := [xM 17 0,
  xL 18 (.faddr 3 (.slot 3)),
  xL 19 (.load false 1 (.slot 18)),
  xL 20 (.call (.const (.func 33 [] [])) [(.slot 17), (.slot 19)]),
  xM 4 20]
def r14_7 : List XLine := [xL 22 (.faddr 1 (.slot 3)),
  xL 23 (.load false 1 (.slot 22)),
  xM 24 0,
  xL 25 (.nilCheck (.slot 24)),
  xL 26 (.faddr 1 (.slot 25)),
  xL 27 (.load false 1 (.slot 26)),
  xL 28 (.bin .leq 2 .num (.slot 23) (.slot 27)),
  xM 21 28]
def r14_8 : List XLine := [xL 4 (.mv (.const (.int .i64 (.ofNat 62))))]
def r14_9 : List XLine := [xM 29 0,
  xL 30 (.faddr 2 (.slot 3)),
  xL 31 (.load false 1 (.slot 30)),
  xL 32 (.faddr 3 (.slot 3)),
  xL 33 (.load false 1 (.slot 32)),
  xL 34 (.call (.const (.func 34 [] [])) [(.slot 29), (.slot 31), (.slot 33)]),
  xM 5 34]
def r14_10 : List XLine := [xM 35 5,
  xL 36 (.bin .neq 28 .num (.slot 35) (.const (.int .i64 (.ofNat 0))))]
def r14_11 : List XLine := [xM 37 5,
  xM 4 37]
def r14_12 : List XLine := [xM 38 0,
  xL 39 (.nilCheck (.slot 38)),
  xL 40 (.faddr 2 (.slot 39)),
  xL 41 (.load false 1 (.slot 40)),
  xL 42 (.faddr 2 (.slot 3)),
  xL 43 (.load false 1 (.slot 42)),
  xL 44 (.len .slice (.slot 43)),
  xL 45 (.bin .add 3 .num (.slot 41) (.slot 44)),
  xL 46 (.bin .gtr 3 .num (.slot 45) (.const (.int .i64 (.ofNat 16777216))))]
def r14_13 : List XLine := [xL 4 (.mv (.const (.int .i64 (.ofNat 3))))]
def r14_14 : List XLine := [xM 47 0,
  xL 48 (.faddr 1 (.slot 3)),
  xL 49 (.load false 1 (.slot 48)),
  xL 50 (.faddr 2 (.slot 3)),
  xL 51 (.load false 1 (.slot 50)),
  xL 52 (.call (.const (.func 31 [] [])) [(.slot 47), (.slot 49), (.slot 51)])]
def r14_15 : List XLine := [xL 4 (.mv (.const (.int .i64 (.ofNat 0))))]
def xf14 : XFunc := ⟨(.seq (.region false r14_0)
  (.seq (.block 0 (.seq (.region false r14_1)
  (.cond (.slot 6)
  (.seq (.region false r14_2)
  .ret)
  (.seq (.region false r14_3)
  (.cond (.slot 9)
  (.seq (.region false r14_4)
  .ret)
  (.seq (.region false r14_5)
  (.cond (.slot 13)
  (.seq (.region false r14_6)
  .ret)
  (.seq (.region true r14_7)
  (.cond (.slot 21)
  (.seq (.region false r14_8)
  .ret)
  .skip)))))))))
  (.seq (.seq (.region false r14_9)
  (.seq (.region false r14_10)
  (.cond (.slot 36)
  (.seq (.region false r14_11)
  .ret)
  .skip)))
  (.seq (.seq (.region true r14_12)
  (.cond (.slot 46)
  (.seq (.region false r14_13)
  .ret)
  .skip))
  (.seq (.region false r14_14)
  (.seq (.region false r14_15)
  .ret)))))),
  [.tmp 4]⟩
theorem xf14_ok : compFunc Try.prog Try.f14 = some xf14 := by kernel_rfl
def r20_0 : List XLine := [xL 2 (.mv (.const .nils))]
def r20_1 : List XLine := [xL 3 (.mv (.const .nils))]
def r20_2 : List XLine := [xM 4 3,
  xM 5 0,
  xL 6 (.append 1 4 (.slot 4) (.slot 5)),
  xM 3 6]
def r20_3 : List XLine := [xM 7 3,
  xM 8 0,
  xL 9 (.append 1 4 (.slot 7) (.slot 8)),
  xM 3 9]
def r20_4 : List XLine := [xM 10 3,
  xM 2 10]
def xf20 : XFunc := ⟨(.seq (.region false r20_0)
  (.seq (.region false r20_1)
  (.seq (.region false r20_2)
  (.seq (.region false r20_3)
  (.seq (.region false r20_4)
  .ret))))),
  [.tmp 2]⟩
theorem xf20_ok : compFunc Try.prog Try.f20 = some xf20 := by kernel_rfl
def r21_0 : List XLine := [xL 2 (.mv (.const .nils))]
def r21_1 : List XLine := [xM 3 0,
  xL 4 (.bin .eql 38 .ptr (.slot 3) (.const .nilp))]
def r21_2 : List XLine := [xL 2 (.mv (.const .nils))]
def r21_3 : List XLine := [xM 5 0,
  xL 6 (.nilCheck (.slot 5)),
  xL 7 (.faddr 0 (.slot 6)),
  xL 8 (.load false 1 (.slot 7)),
  xL 9 (.call (.const (.func 39 [] [])) [(.slot 8)]),
  xL 10 (.call (.const (.func 38 [] [])) [(.slot 9)]),
  xM 2 10]
def xf21 : XFunc := ⟨(.seq (.region false r21_0)
  (.seq (.seq (.region false r21_1)
  (.cond (.slot 4)
  (.seq (.region false r21_2)
  .ret)
  .skip))
  (.seq (.region false r21_3)
  .ret))),
  [.tmp 2]⟩
theorem xf21_ok : compFunc Try.prog Try.f21 = some xf21 := by kernel_rfl
def r22_0 : List XLine := [xL 2 (.mv (.const (.bool false)))]
def r22_1 : List XLine := [xM 3 0,
  xL 4 (.bin .neq 38 .ptr (.slot 3) (.const .nilp)),
  xM 5 4,
  ⟨⟨.mv (.slot 0), some 6, some (5, true)⟩, []⟩,
  ⟨⟨.nilCheck (.slot 6), some 7, some (5, true)⟩, []⟩,
  ⟨⟨.faddr 3 (.slot 7), some 8, some (5, true)⟩, []⟩,
  ⟨⟨.load false 1 (.slot 8), some 9, some (5, true)⟩, []⟩,
  xL 10 (.pick (.slot 5) (.slot 9) (.const (.bool false))),
  xM 2 10]
def xf22 : XFunc := ⟨(.seq (.region false r22_0)
  (.seq (.region false r22_1)
  .ret)),
  [.tmp 2]⟩
theorem xf22_ok : compFunc Try.prog Try.f22 = some xf22 := by kernel_rfl
def r26_0 : List XLine := [xL 4 (.mv (.const (.int .i64 (.ofNat 0))))]
def r26_1 : List XLine := [xL 5 (.mv (.const (.int .i64 (.ofNat 0))))]
def r26_2 : List XLine := [xL 6 (.mv (.const (.int .i64 (.ofNat 0))))]
def r26_3 : List XLine := [xM 7 6,
  xM 8 0,
  xL 9 (.len .slice (.slot 8)),
  xL 10 (.bin .lss 3 .num (.slot 7) (.slot 9)),
  xM 11 10,
  ⟨⟨.mv (.slot 5), some 12, some (11, true)⟩, []⟩,
  ⟨⟨.mv (.slot 1), some 13, some (11, true)⟩, []⟩,
  ⟨⟨.bin .leq 3 .num (.slot 12) (.slot 13), some 14, some (11, true)⟩, []⟩,
  xL 15 (.pick (.slot 11) (.slot 14) (.const (.bool false)))]
def r26_4 : List XLine := [xM 18 5,
  xL 19 (.bin .add 3 .num (.slot 18) (.const (.int .i64 (.ofNat 1)))),
  xM 20 0,
  xM 21 6,
  xL 22 (.iaddr 4 (.slot 20) (.slot 21)),
  xL 23 (.faddr 2 (.slot 22)),
  xL 24 (.load false 1 (.slot 23)),
  xL 25 (.len .slice (.slot 24)),
  xM 26 1,
  xL 27 (.minmax true (.slot 25) (.slot 26)),
  xL 28 (.bin .add 3 .num (.slot 19) (.slot 27)),
  xM 29 0,
  xM 30 6,
  xL 31 (.iaddr 4 (.slot 29) (.slot 30)),
  xL 32 (.faddr 3 (.slot 31)),
  xL 33 (.load false 1 (.slot 32)),
  xL 34 (.len .slice (.slot 33)),
  xM 35 1,
  xL 36 (.minmax true (.slot 34) (.slot 35)),
  xL 37 (.bin .add 3 .num (.slot 28) (.slot 36)),
  xM 5 37]
def r26_5 : List XLine := [xM 16 6,
  xL 17 (.bin .add 3 .num (.slot 16) (.const (.int .i64 (.ofNat 1)))),
  xM 6 17]
def r26_6 : List XLine := [xM 38 5,
  xM 4 38]
def xf26 : XFunc := ⟨(.seq (.region false r26_0)
  (.seq (.region false r26_1)
  (.seq (.seq (.region false r26_2)
  (.block 0 (.loop (.seq (.seq (.region false r26_3)
  (.cond (.slot 15)
  .skip
  (.exit 0)))
  (.seq (.block 1 (.region true r26_4))
  (.region false r26_5))))))
  (.seq (.region false r26_6)
  .ret)))),
  [.tmp 4]⟩
theorem xf26_ok : compFunc Try.prog Try.f26 = some xf26 := by kernel_rfl
def r27_0 : List XLine := [xL 0 (.alloc [(.int .i64 (.ofNat 0)), .nils])]
def r27_1 : List XLine := [xL 1 (.bslice 1 [(.int .i32 (.ofNat 0)), (.int .i32 (.ofNat 0))] [(0, 1, (.const (.int .i32 (.ofNat 1)))), (1, 1, (.const (.int .i32 (.ofNat 2))))] 2),
  xL 2 (.bslice 1 [(.int .i32 (.ofNat 0)), (.int .i32 (.ofNat 0))] [(0, 1, (.const (.int .i32 (.ofNat 1)))), (1, 1, (.const (.int .i32 (.negSucc 1))))] 2),
  xL 3 (.bslice 1 [(.int .i32 (.ofNat 0)), (.int .i32 (.ofNat 0))] [(0, 1, (.const (.int .i32 (.negSucc 0)))), (1, 1, (.const (.int .i32 (.ofNat 2))))] 2),
  xL 4 (.bslice 1 [(.int .i32 (.ofNat 0)), (.int .i32 (.ofNat 0))] [(0, 1, (.const (.int .i32 (.negSucc 0)))), (1, 1, (.const (.int .i32 (.negSucc 1))))] 2),
  xL 5 (.bslice 1 [.nils, .nils, .nils, .nils] [(0, 1, (.slot 1)), (1, 1, (.slot 2)), (2, 1, (.slot 3)), (3, 1, (.slot 4))] 4),
  xL 6 (.build [(.int .i64 (.ofNat 0)), .nils] [(0, 1, (.const (.int .i64 (.ofNat 2)))), (1, 1, (.slot 5))]),
  ⟨⟨.store 2 (.slot 0) (.slot 6), none, none⟩, []⟩]
def xf27 : XFunc := ⟨(.seq (.region false r27_0)
  (.seq (.region false r27_1)
  .ret)),
  [.cell 0 true 2]⟩
theorem xf27_ok : compFunc Try.prog Try.f27 = some xf27 := by kernel_rfl
def r30_0 : List XLine := [xL 1 (.box (.slot 0)),
  xL 2 (.mv (.const (.int .i64 (.ofNat 0))))]
def r30_1 : List XLine := [xL 9 (.faddr 0 (.slot 1)),
  xL 10 (.load false 1 (.slot 9)),
  xL 11 (.bin .lss 3 .num (.slot 10) (.const (.int .i64 (.ofNat 0)))),
  xM 8 11]
def r30_2 : List XLine := [xL 12 (.faddr 0 (.slot 1)),
  xL 13 (.load false 1 (.slot 12)),
  xL 14 (.bin .gtr 3 .num (.slot 13) (.const (.int .i64 (.ofNat 1048576)))),
  xM 8 14]
def r30_3 : List XLine := [xL 2 (.mv (.const (.int .i64 (.ofNat 2))))]
def r30_4 : List XLine := [xL 16 (.faddr 1 (.slot 1)),
  xL 17 (.load false 1 (.slot 16)),
  xL 18 (.len .slice (.slot 17)),
  xL 19 (.bin .gtr 3 .num (.slot 18) (.const (.int .i64 (.ofNat 1048576)))),
  xM 15 19]
def r30_5 : List XLine := [xL 2 (.mv (.const (.int .i64 (.ofNat 3))))]
def r30_6 : List XLine := [xL 3 (.mv (.const (.int .i64 (.ofNat 16777216))))]
def r30_7 : List XLine := [xL 20 (.faddr 1 (.slot 1)),
  xL 21 (.load false 1 (.slot 20)),
  xL 22 (.len .slice (.slot 21)),
  xL 23 (.mv (.const (.int .i64 (.ofNat 0))))]
def r30_8 : List XLine := [xL 24 (.bin .lss 3 .num (.slot 23) (.slot 22))]
def r30_9 : List XLine := [xL 25 (.iaddr 1 (.slot 21) (.slot 23)),
  xL 26 (.load false 1 (.slot 25)),
  xM 5 26]
def r30_10 : List XLine := [xM 27 5,
  xL 28 (.len .slice (.slot 27)),
  xL 29 (.mv (.const (.int .i64 (.ofNat 0))))]
def r30_11 : List XLine := [xL 30 (.bin .lss 3 .num (.slot 29) (.slot 28))]
def r30_12 : List XLine := [xL 31 (.iaddr 1 (.slot 27) (.slot 29)),
  xL 32 (.load false 1 (.slot 31)),
  xM 7 32]
def r30_13 : List XLine := [xM 33 3,
  xL 34 (.bin .eql 3 .num (.slot 33) (.const (.int .i64 (.ofNat 0))))]
def r30_14 : List XLine := [xL 2 (.mv (.const (.int .i64 (.ofNat 3))))]
def r30_15 : List XLine := [xM 35 3,
  xL 36 (.bin .sub 3 .num (.slot 35) (.const (.int .i64 (.ofNat 1)))),
  xM 3 36]
def r30_16 : List XLine := [xM 37 7,
  xL 38 (.bin .eql 57 .num (.slot 37) (.const (.int .i32 (.ofNat 0)))),
  xM 39 38,
  ⟨⟨.mv (.slot 7), some 40, some (39, false)⟩, []⟩,
  ⟨⟨.faddr 0 (.slot 1), some 42, some (39, false)⟩, []⟩,
  ⟨⟨.load false 1 (.slot 42), some 43, some (39, false)⟩, []⟩,
  ⟨⟨.call (.const (.func 47 [] [])) [(.slot 40)], some 41, some (39, false)⟩, [⟨.load false 1 (.slot 42), some 43, some (39, false)⟩]⟩,
  ⟨⟨.bin .gtr 3 .num (.slot 41) (.slot 43), some 44, some (39, false)⟩, []⟩,
  xL 45 (.pick (.slot 39) (.const (.bool true)) (.slot 44))]
def r30_17 : List XLine := [xL 2 (.mv (.const (.int .i64 (.ofNat 4))))]
def r30_18 : List XLine := [xL 46 (.bin .add 3 .num (.slot 29) (.const (.int .i64 (.ofNat 1)))),
  xM 29 46]
def r30_19 : List XLine := [xL 47 (.bin .add 3 .num (.slot 23) (.const (.int .i64 (.ofNat 1)))),
  xM 23 47]
def r30_20 : List XLine := [xL 2 (.mv (.const (.int .i64 (.ofNat 0))))]
def xf30 : XFunc := ⟨(.seq (.region false r30_0)
  (.seq (.block 0 (.seq (.seq (.region false r30_1)
  (.cond (.slot 8)
  .skip
  (.region false r30_2)))
  (.cond (.slot 8)
  (.seq (.region false r30_3)
  .ret)
  (.seq (.region false r30_4)
  (.cond (.slot 15)
  (.seq (.region false r30_5)
  .ret)
  .skip)))))
  (.seq (.region false r30_6)
  (.seq (.seq (.region false r30_7)
  (.block 1 (.loop (.seq (.region false r30_8)
  (.seq (.cond (.slot 24)
  .skip
  (.exit 1))
  (.seq (.block 2 (.seq (.region false r30_9)
  (.seq (.region false r30_10)
  (.block 3 (.loop (.seq (.region false r30_11)
  (.seq (.cond (.slot 30)
  .skip
  (.exit 3))
  (.seq (.block 4 (.seq (.region false r30_12)
  (.seq (.seq (.region false r30_13)
  (.cond (.slot 34)
  (.seq (.region false r30_14)
  .ret)
  .skip))
  (.seq (.region false r30_15)
  (.seq (.region true r30_16)
  (.cond (.slot 45)
  (.seq (.region false r30_17)
  .ret)
  .skip))))))
  (.region false r30_18)))))))))
  (.region false r30_19)))))))
  (.seq (.region false r30_20)
  .ret))))),
  [.tmp 2]⟩
theorem xf30_ok : compFunc Try.prog Try.f30 = some xf30 := by kernel_rfl
def r31_0 : List XLine := [xM 9 2,
  xL 10 (.call (.const (.func 48 [] [])) [(.slot 9)]),
  xM 8 10,
  xL 11 (.extract (.slot 8) 0),
  xL 12 (.extract (.slot 8) 1),
  xM 6 11,
  xM 7 12]
def r31_1 : List XLine := [xM 13 0,
  xL 14 (.nilCheck (.slot 13)),
  xL 15 (.faddr 0 (.slot 14)),
  xL 16 (.load false 1 (.slot 15)),
  xM 17 1,
  xM 18 2,
  xM 20 6,
  xM 21 7,
  ⟨⟨.call (.const (.func 49 [] [])) [(.slot 18)], some 19, none⟩, [⟨.load false 1 (.slot 15), some 16, none⟩]⟩,
  xL 22 (.build [.nils, .nils, (.bool false)] [(0, 1, (.slot 19)), (1, 1, (.slot 20)), (2, 1, (.slot 21))]),
  ⟨⟨.box (.slot 22), some 23, none⟩, [⟨.load false 1 (.slot 15), some 16, none⟩]⟩,
  ⟨⟨.mapup .i64 (.slot 16) (.slot 17) (.slot 23), none, none⟩, []⟩]
def r31_2 : List XLine := [xM 24 0,
  xM 25 1,
  xL 26 (.nilCheck (.slot 24)),
  xL 27 (.faddr 1 (.slot 26)),
  ⟨⟨.store 1 (.slot 27) (.slot 25), none, none⟩, []⟩]
def r31_3 : List XLine := [xM 28 0,
  xL 29 (.nilCheck (.slot 28)),
  xL 30 (.faddr 2 (.slot 29)),
  xL 31 (.load false 1 (.slot 30)),
  xM 32 2,
  xL 33 (.len .slice (.slot 32)),
  xL 34 (.bin .add 3 .num (.slot 31) (.slot 33)),
  xL 35 (.nilCheck (.slot 28)),
  xL 36 (.faddr 2 (.slot 35)),
  ⟨⟨.store 1 (.slot 36) (.slot 34), none, none⟩, []⟩]
def r31_4 : List XLine := [xM 37 0,
  xM 38 0,
  xL 39 (.nilCheck (.slot 38)),
  xL 40 (.faddr 3 (.slot 39)),
  xL 41 (.load false 1 (.slot 40)),
  xM 42 41,
  ⟨⟨.mv (.slot 2), some 43, some (42, false)⟩, []⟩,
  ⟨⟨.len .slice (.slot 43), some 44, some (42, false)⟩, []⟩,
  ⟨⟨.bin .eql 3 .num (.slot 44) (.const (.int .i64 (.ofNat 0))), some 45, some (42, false)⟩, []⟩,
  xL 46 (.pick (.slot 42) (.const (.bool true)) (.slot 45)),
  xL 47 (.nilCheck (.slot 37)),
  xL 48 (.faddr 3 (.slot 47)),
  ⟨⟨.store 1 (.slot 48) (.slot 46), none, none⟩, []⟩]
def xf31 : XFunc := ⟨(.seq (.region false r31_0)
  (.seq (.region true r31_1)
  (.seq (.region false r31_2)
  (.seq (.region false r31_3)
  (.region false r31_4))))),
  []⟩
theorem xf31_ok : compFunc Try.prog Try.f31 = some xf31 := by kernel_rfl
def r32_0 : List XLine := [xL 1 (.box (.slot 0)),
  xL 2 (.mv (.const (.bool false)))]
def r32_1 : List XLine := [xL 7 (.faddr 2 (.slot 1)),
  xL 8 (.load false 1 (.slot 7)),
  xL 9 (.len .slice (.slot 8)),
  xL 10 (.mv (.const (.int .i64 (.ofNat 0))))]
def r32_2 : List XLine := [xL 11 (.bin .lss 3 .num (.slot 10) (.slot 9))]
def r32_3 : List XLine := [xL 12 (.iaddr 1 (.slot 8) (.slot 10)),
  xL 13 (.load false 1 (.slot 12)),
  xM 4 13]
def r32_4 : List XLine := [xM 14 4,
  xL 15 (.bin .eql 57 .num (.slot 14) (.const (.int .i32 (.ofNat 0)))),
  xM 16 15,
  ⟨⟨.mv (.slot 4), some 17, some (16, false)⟩, []⟩,
  ⟨⟨.bin .lss 57 .num (.slot 17) (.const (.int .i32 (.negSucc 1048575))), some 18, some (16, false)⟩, []⟩,
  xL 19 (.pick (.slot 16) (.const (.bool true)) (.slot 18)),
  xM 20 19,
  ⟨⟨.mv (.slot 4), some 21, some (20, false)⟩, []⟩,
  ⟨⟨.bin .gtr 57 .num (.slot 21) (.const (.int .i32 (.ofNat 1048576))), some 22, some (20, false)⟩, []⟩,
  xL 23 (.pick (.slot 20) (.const (.bool true)) (.slot 22))]
def r32_5 : List XLine := [xL 2 (.mv (.const (.bool false)))]
def r32_6 : List XLine := [xL 24 (.bin .add 3 .num (.slot 10) (.const (.int .i64 (.ofNat 1)))),
  xM 10 24]
def r32_7 : List XLine := [xL 25 (.faddr 3 (.slot 1)),
  xL 26 (.load false 1 (.slot 25)),
  xL 27 (.len .slice (.slot 26)),
  xL 28 (.mv (.const (.int .i64 (.ofNat 0))))]
def r32_8 : List XLine := [xL 29 (.bin .lss 3 .num (.slot 28) (.slot 27))]
def r32_9 : List XLine := [xL 30 (.iaddr 1 (.slot 26) (.slot 28)),
  xL 31 (.load false 1 (.slot 30)),
  xM 6 31]
def r32_10 : List XLine := [xM 32 6,
  xL 33 (.bin .eql 2 .num (.slot 32) (.const (.int .i64 (.ofNat 0)))),
  xM 34 33,
  ⟨⟨.mv (.slot 6), some 35, some (34, false)⟩, []⟩,
  ⟨⟨.bin .lss 2 .num (.slot 35) (.const (.int .i64 (.negSucc 4611686018427387902))), some 36, some (34, false)⟩, []⟩,
  xL 37 (.pick (.slot 34) (.const (.bool true)) (.slot 36)),
  xM 38 37,
  ⟨⟨.mv (.slot 6), some 39, some (38, false)⟩, []⟩,
  ⟨⟨.bin .gtr 2 .num (.slot 39) (.const (.int .i64 (.ofNat 4611686018427387903))), some 40, some (38, false)⟩, []⟩,
  xL 41 (.pick (.slot 38) (.const (.bool true)) (.slot 40)),
  xM 42 41,
  ⟨⟨.mv (.slot 6), some 43, some (42, false)⟩, []⟩,
  ⟨⟨.bin .lss 2 .num (.slot 43) (.const (.int .i64 (.ofNat 0))), some 44, some (42, false)⟩, []⟩,
  ⟨⟨.mv (.slot 44), some 45, some (42, false)⟩, []⟩,
  ⟨⟨.faddr 0 (.slot 1), some 46, some (45, true)⟩, []⟩,
  ⟨⟨.load false 1 (.slot 46), some 47, some (45, true)⟩, []⟩,
  ⟨⟨.bin .eql 5 .num (.slot 47) (.const (.int .u8 (.ofNat 2))), some 48, some (45, true)⟩, []⟩,
  ⟨⟨.pick (.slot 45) (.slot 48) (.const (.bool false)), some 49, some (42, false)⟩, []⟩,
  xL 50 (.pick (.slot 42) (.const (.bool true)) (.slot 49))]
def r32_11 : List XLine := [xL 2 (.mv (.const (.bool false)))]
def r32_12 : List XLine := [xL 51 (.bin .add 3 .num (.slot 28) (.const (.int .i64 (.ofNat 1)))),
  xM 28 51]
def r32_13 : List XLine := [xL 52 (.faddr 0 (.slot 1)),
  xL 53 (.load false 1 (.slot 52))]
def r32_14 : List XLine := [xL 55 (.bin .eql 5 .num (.slot 53) (.const (.int .u8 (.ofNat 1)))),
  xM 54 55]
def r32_15 : List XLine := [xL 56 (.faddr 1 (.slot 1)),
  xL 57 (.load false 1 (.slot 56)),
  xL 58 (.bin .geq 2 .num (.slot 57) (.const (.int .i64 (.ofNat 1)))),
  xM 59 58,
  ⟨⟨.faddr 1 (.slot 1), some 60, some (59, true)⟩, []⟩,
  ⟨⟨.load false 1 (.slot 60), some 61, some (59, true)⟩, []⟩,
  ⟨⟨.bin .leq 2 .num (.slot 61) (.const (.int .i64 (.ofNat 4611686018427387903))), some 62, some (59, true)⟩, []⟩,
  xL 63 (.pick (.slot 59) (.slot 62) (.const (.bool false))),
  xM 2 63]
def r32_16 : List XLine := [xL 65 (.bin .eql 5 .num (.slot 53) (.const (.int .u8 (.ofNat 2)))),
  xM 64 65]
def r32_17 : List XLine := [xL 66 (.faddr 1 (.slot 1)),
  xL 67 (.load false 1 (.slot 66)),
  xL 68 (.bin .geq 2 .num (.slot 67) (.const (.int .i64 (.ofNat 0)))),
  xM 69 68,
  ⟨⟨.faddr 1 (.slot 1), some 70, some (69, true)⟩, []⟩,
  ⟨⟨.load false 1 (.slot 70), some 71, some (69, true)⟩, []⟩,
  ⟨⟨.bin .leq 2 .num (.slot 71) (.const (.int .i64 (.ofNat 4611686018427387903))), some 72, some (69, true)⟩, []⟩,
  xL 73 (.pick (.slot 69) (.slot 72) (.const (.bool false))),
  xM 74 73,
  ⟨⟨.faddr 2 (.slot 1), some 75, some (74, true)⟩, []⟩,
  ⟨⟨.load false 1 (.slot 75), some 76, some (74, true)⟩, []⟩,
  ⟨⟨.len .slice (.slot 76), some 77, some (74, true)⟩, []⟩,
  ⟨⟨.bin .eql 3 .num (.slot 77) (.const (.int .i64 (.ofNat 0))), some 78, some (74, true)⟩, []⟩,
  xL 79 (.pick (.slot 74) (.slot 78) (.const (.bool false))),
  xM 2 79]
def r32_18 : List XLine := [xL 2 (.mv (.const (.bool false)))]
def xf32 : XFunc := ⟨(.seq (.region false r32_0)
  (.seq (.seq (.region false r32_1)
  (.block 0 (.loop (.seq (.region false r32_2)
  (.seq (.cond (.slot 11)
  .skip
  (.exit 0))
  (.seq (.block 1 (.seq (.region false r32_3)
  (.seq (.region false r32_4)
  (.cond (.slot 23)
  (.seq (.region false r32_5)
  .ret)
  .skip))))
  (.region false r32_6)))))))
  (.seq (.seq (.region false r32_7)
  (.block 2 (.loop (.seq (.region false r32_8)
  (.seq (.cond (.slot 29)
  .skip
  (.exit 2))
  (.seq (.block 3 (.seq (.region false r32_9)
  (.seq (.region false r32_10)
  (.cond (.slot 50)
  (.seq (.region false r32_11)
  .ret)
  .skip))))
  (.region false r32_12)))))))
  (.seq (.seq (.region false r32_13)
  (.block 4 (.seq (.region false r32_14)
  (.cond (.slot 54)
  (.seq (.region false r32_15)
  .ret)
  (.seq (.region false r32_16)
  (.cond (.slot 64)
  (.seq (.region false r32_17)
  .ret)
  .skip))))))
  (.seq (.region false r32_18)
  .ret))))),
  [.tmp 2]⟩
theorem xf32_ok : compFunc Try.prog Try.f32 = some xf32 := by kernel_rfl
def r33_0 : List XLine := [xL 4 (.mv (.const (.int .i64 (.ofNat 0))))]
def r33_1 : List XLine := [xL 9 (.mkmap .i64),
  xM 5 9]
def r33_2 : List XLine := [xM 10 1,
  xL 11 (.len .slice (.slot 10)),
  xL 12 (.mv (.const (.int .i64 (.ofNat 0))))]
def r33_3 : List XLine := [xL 13 (.bin .lss 3 .num (.slot 12) (.slot 11))]
def r33_4 : List XLine := [xL 14 (.iaddr 1 (.slot 10) (.slot 12)),
  xL 15 (.load false 1 (.slot 14)),
  xM 7 15]
def r33_5 : List XLine := [xM 16 0,
  xL 17 (.nilCheck (.slot 16)),
  xL 18 (.faddr 0 (.slot 17)),
  xL 19 (.load false 1 (.slot 18)),
  xM 20 7,
  xL 21 (.lookup .i64 .nilp (.slot 19) (.slot 20) false),
  xL 22 (.bin .eql 80 .ptr (.slot 21) (.const .nilp)),
  xM 23 22,
  ⟨⟨.mv (.slot 5), some 24, some (23, false)⟩, []⟩,
  ⟨⟨.mv (.slot 7), some 25, some (23, false)⟩, []⟩,
  ⟨⟨.lookup .i64 (.bool false) (.slot 24) (.slot 25) false, some 26, some (23, false)⟩, []⟩,
  xL 27 (.pick (.slot 23) (.const (.bool true)) (.slot 26))]
def r33_6 : List XLine := [xL 4 (.mv (.const (.int .i64 (.ofNat 5))))]
def r33_7 : List XLine := [xM 28 5,
  xM 29 7,
  ⟨⟨.mapup .i64 (.slot 28) (.slot 29) (.const (.bool true)), none, none⟩, []⟩]
def r33_8 : List XLine := [xL 30 (.bin .add 3 .num (.slot 12) (.const (.int .i64 (.ofNat 1)))),
  xM 12 30]
def r33_9 : List XLine := [xM 31 5,
  xL 32 (.range .i64 (.slot 31))]
def r33_10 : List XLine := [xL 33 (.next (.slot 32)),
  xL 34 (.extract (.slot 33) 0)]
def r33_11 : List XLine := [xL 35 (.entry (.slot 32)),
  xL 36 (.extract (.slot 35) 0),
  xM 8 36]
def r33_12 : List XLine := [xM 37 0,
  xL 38 (.nilCheck (.slot 37)),
  xL 39 (.faddr 2 (.slot 38)),
  xL 40 (.load false 1 (.slot 39)),
  xM 41 0,
  xL 42 (.nilCheck (.slot 41)),
  xL 43 (.faddr 0 (.slot 42)),
  xL 44 (.load false 1 (.slot 43)),
  xM 45 8,
  xL 46 (.lookup .i64 .nilp (.slot 44) (.slot 45) false),
  xL 47 (.nilCheck (.slot 46)),
  xL 48 (.faddr 0 (.slot 47)),
  xL 49 (.load false 1 (.slot 48)),
  xL 50 (.len .slice (.slot 49)),
  xL 51 (.bin .sub 3 .num (.slot 40) (.slot 50)),
  xL 52 (.nilCheck (.slot 37)),
  xL 53 (.faddr 2 (.slot 52)),
  ⟨⟨.store 1 (.slot 53) (.slot 51), none, none⟩, []⟩]
def r33_13 : List XLine := [xM 54 0,
  xL 55 (.nilCheck (.slot 54)),
  xL 56 (.faddr 0 (.slot 55)),
  xL 57 (.load false 1 (.slot 56)),
  xM 58 8,
  ⟨⟨.delete .i64 (.slot 57) (.slot 58), none, none⟩, []⟩]
def r33_14 : List XLine := [xL 4 (.mv (.const (.int .i64 (.ofNat 0))))]
def xf33 : XFunc := ⟨(.seq (.region false r33_0)
  (.seq (.region false r33_1)
  (.seq (.seq (.region false r33_2)
  (.block 0 (.loop (.seq (.region false r33_3)
  (.seq (.cond (.slot 13)
  .skip
  (.exit 0))
  (.seq (.block 1 (.seq (.region false r33_4)
  (.seq (.seq (.region false r33_5)
  (.cond (.slot 27)
  (.seq (.region false r33_6)
  .ret)
  .skip))
  (.region false r33_7))))
  (.region false r33_8)))))))
  (.seq (.seq (.region false r33_9)
  (.block 2 (.loop (.seq (.region false r33_10)
  (.seq (.cond (.slot 34)
  .skip
  (.exit 2))
  (.block 3 (.seq (.region false r33_11)
  (.seq (.region true r33_12)
  (.region false r33_13)))))))))
  (.seq (.region false r33_14)
  .ret))))),
  [.tmp 4]⟩
theorem xf33_ok : compFunc Try.prog Try.f33 = some xf33 := by kernel_rfl
def r34_0 : List XLine := [xL 3 (.box (.slot 0)),
  xL 6 (.mv (.const (.int .i64 (.ofNat 0))))]
def r34_1 : List XLine := [xM 14 1,
  xL 15 (.call (.const (.func 48 [] [])) [(.slot 14)]),
  xM 13 15,
  xL 16 (.extract (.slot 13) 0),
  xL 17 (.extract (.slot 13) 1),
  xM 7 16,
  xM 8 17]
def r34_2 : List XLine := [xM 18 8]
def r34_3 : List XLine := [xL 6 (.mv (.const (.int .i64 (.ofNat 0))))]
def r34_4 : List XLine := [xL 19 (.mkfunc 50 [] [(.slot 3)]),
  ⟨⟨.defer (.slot 19) [], none, none⟩, []⟩]
def r34_5 : List XLine := [xM 20 7,
  xL 21 (.len .slice (.slot 20)),
  xL 22 (.mv (.const (.int .i64 (.ofNat 0))))]
def r34_6 : List XLine := [xL 23 (.bin .lss 3 .num (.slot 22) (.slot 21))]
def r34_7 : List XLine := [xL 24 (.iaddr 1 (.slot 20) (.slot 22)),
  xL 25 (.load false 1 (.slot 24)),
  xM 10 25]
def r34_8 : List XLine := [xL 26 (.load false 1 (.slot 3)),
  xM 27 10,
  xL 28 (.un .neg (.slot 27)),
  xL 29 (.call (.const (.func 52 [] [])) [(.slot 26), (.slot 28)])]
def r34_9 : List XLine := [xL 30 (.bin .add 3 .num (.slot 22) (.const (.int .i64 (.ofNat 1)))),
  xM 22 30]
def r34_10 : List XLine := [xM 32 2,
  xL 33 (.call (.const (.func 53 [] [])) [(.slot 32)]),
  xM 31 33,
  xL 34 (.extract (.slot 31) 0),
  xL 35 (.extract (.slot 31) 1),
  xM 11 34,
  xM 12 35]
def r34_11 : List XLine := [xL 36 (.load false 1 (.slot 3)),
  xM 37 11,
  xL 38 (.call (.const (.func 54 [] [])) [(.slot 36), (.slot 37)])]
def r34_12 : List XLine := [xL 40 (.bin .eql 91 .num (.slot 38) (.const (.int .i64 (.ofNat 1)))),
  xM 39 40]
def r34_13 : List XLine := [xL 6 (.mv (.const (.int .i64 (.ofNat 0))))]
def r34_14 : List XLine := [xL 42 (.bin .eql 91 .num (.slot 38) (.const (.int .i64 (.ofNat 2)))),
  xM 41 42]
def r34_15 : List XLine := [xL 6 (.mv (.const (.int .i64 (.ofNat 60))))]
def r34_16 : List XLine := [xM 43 1,
  xL 44 (.len .slice (.slot 43)),
  xL 45 (.bin .eql 3 .num (.slot 44) (.const (.int .i64 (.ofNat 0))))]
def r34_17 : List XLine := [xL 6 (.mv (.const (.int .i64 (.ofNat 61))))]
def r34_18 : List XLine := [xL 46 (.load false 1 (.slot 3)),
  xM 47 1,
  xL 48 (.iaddr 1 (.slot 47) (.const (.int .i64 (.ofNat 0)))),
  xL 49 (.load false 1 (.slot 48)),
  xM 50 12,
  xL 51 (.call (.const (.func 55 [] [])) [(.slot 46), (.slot 49), (.slot 50)]),
  xM 6 51]
def xf34 : XFunc := ⟨(.seq (.region false r34_0)
  (.seq (.region false r34_1)
  (.seq (.seq (.region false r34_2)
  (.cond (.slot 18)
  (.seq (.region false r34_3)
  .ret)
  .skip))
  (.seq (.region false r34_4)
  (.seq (.seq (.region false r34_5)
  (.block 0 (.loop (.seq (.region false r34_6)
  (.seq (.cond (.slot 23)
  .skip
  (.exit 0))
  (.seq (.block 1 (.seq (.region false r34_7)
  (.region false r34_8)))
  (.region false r34_9)))))))
  (.seq (.region false r34_10)
  (.seq (.seq (.region false r34_11)
  (.block 2 (.seq (.region false r34_12)
  (.cond (.slot 39)
  (.seq (.region false r34_13)
  .ret)
  (.seq (.region false r34_14)
  (.cond (.slot 41)
  (.seq (.region false r34_15)
  .ret)
  .skip))))))
  (.seq (.seq (.region false r34_16)
  (.cond (.slot 45)
  (.seq (.region false r34_17)
  .ret)
  .skip))
  (.seq (.region true r34_18)
  .ret))))))))),
  [.tmp 6]⟩
theorem xf34_ok : compFunc Try.prog Try.f34 = some xf34 := by kernel_rfl
def r36_0 : List XLine := [xL 2 (.mv (.const (.int .i64 (.ofNat 0))))]
def r36_1 : List XLine := [xM 3 0,
  xL 4 (.bin .lss 57 .num (.slot 3) (.const (.int .i32 (.ofNat 0))))]
def r36_2 : List XLine := [xM 5 0,
  xL 6 (.conv .i64 (.slot 5)),
  xL 7 (.un .neg (.slot 6)),
  xM 2 7]
def r36_3 : List XLine := [xM 8 0,
  xL 9 (.conv .i64 (.slot 8)),
  xM 2 9]
def xf36 : XFunc := ⟨(.seq (.region false r36_0)
  (.seq (.seq (.region false r36_1)
  (.cond (.slot 4)
  (.seq (.region false r36_2)
  .ret)
  .skip))
  (.seq (.region false r36_3)
  .ret))),
  [.tmp 2]⟩
theorem xf36_ok : compFunc Try.prog Try.f36 = some xf36 := by kernel_rfl
def r37_0 : List XLine := [xL 4 (.mv (.const (.bool false)))]
def r37_1 : List XLine := [xL 5 (.mv (.const (.int .i64 (.ofNat 0))))]
def r37_2 : List XLine := [xM 6 5,
  xM 7 0,
  xL 8 (.len .slice (.slot 7)),
  xL 9 (.bin .lss 3 .num (.slot 6) (.slot 8))]
def r37_3 : List XLine := [xM 12 0,
  xM 13 5,
  xL 14 (.iaddr 1 (.slot 12) (.slot 13)),
  xL 15 (.load false 1 (.slot 14)),
  xM 16 1,
  xL 17 (.bin .eql 57 .num (.slot 15) (.slot 16))]
def r37_4 : List XLine := [xL 4 (.mv (.const (.bool true)))]
def r37_5 : List XLine := [xM 10 5,
  xL 11 (.bin .add 3 .num (.slot 10) (.const (.int .i64 (.ofNat 1)))),
  xM 5 11]
def r37_6 : List XLine := [xL 4 (.mv (.const (.bool false)))]
def xf37 : XFunc := ⟨(.seq (.region false r37_0)
  (.seq (.seq (.region false r37_1)
  (.block 0 (.loop (.seq (.seq (.region false r37_2)
  (.cond (.slot 9)
  .skip
  (.exit 0)))
  (.seq (.block 1 (.seq (.region false r37_3)
  (.cond (.slot 17)
  (.seq (.region false r37_4)
  .ret)
  .skip)))
  (.region false r37_5))))))
  (.seq (.region false r37_6)
  .ret))),
  [.tmp 4]⟩
theorem xf37_ok : compFunc Try.prog Try.f37 = some xf37 := by kernel_rfl
def r39_0 : List XLine := [xL 1 (.box (.slot 0)),
  xL 2 (.mv (.const .nilf))]
def r39_1 : List XLine := [xL 3 (.mkfunc 58 [] [(.slot 1)]),
  xM 2 3]
def xf39 : XFunc := ⟨(.seq (.region false r39_0)
  (.seq (.region false r39_1)
  .ret)),
  [.tmp 2]⟩
theorem xf39_ok : compFunc Try.prog Try.f39 = some xf39 := by kernel_rfl
def r41_0 : List XLine := [xL 4 (.mv (.const .nils)),
  xL 5 (.mv (.const (.bool false)))]
def r41_1 : List XLine := [xM 6 0,
  xL 7 (.bin .eql 38 .ptr (.slot 6) (.const .nilp)),
  xM 8 7,
  ⟨⟨.mv (.slot 0), some 9, some (8, false)⟩, []⟩,
  ⟨⟨.nilCheck (.slot 9), some 10, some (8, false)⟩, []⟩,
  ⟨⟨.faddr 0 (.slot 10), some 11, some (8, false)⟩, []⟩,
  ⟨⟨.load false 1 (.slot 11), some 12, some (8, false)⟩, []⟩,
  ⟨⟨.mv (.slot 1), some 13, some (8, false)⟩, []⟩,
  ⟨⟨.lookup .i64 .nilp (.slot 12) (.slot 13) false, some 14, some (8, false)⟩, []⟩,
  ⟨⟨.bin .eql 80 .ptr (.slot 14) (.const .nilp), some 15, some (8, false)⟩, []⟩,
  xL 16 (.pick (.slot 8) (.const (.bool true)) (.slot 15))]
def r41_2 : List XLine := [xL 4 (.mv (.const .nils)),
  xL 5 (.mv (.const (.bool false)))]
def r41_3 : List XLine := [xM 17 0,
  xL 18 (.nilCheck (.slot 17)),
  xL 19 (.faddr 0 (.slot 18)),
  xL 20 (.load false 1 (.slot 19)),
  xM 21 1,
  xL 22 (.lookup .i64 .nilp (.slot 20) (.slot 21) false),
  xL 23 (.nilCheck (.slot 22)),
  xL 24 (.faddr 0 (.slot 23)),
  xL 25 (.load false 1 (.slot 24)),
  xL 26 (.call (.const (.func 49 [] [])) [(.slot 25)]),
  xM 4 26,
  xL 5 (.mv (.const (.bool true)))]
def xf41 : XFunc := ⟨(.seq (.region false r41_0)
  (.seq (.seq (.region false r41_1)
  (.cond (.slot 16)
  (.seq (.region false r41_2)
  .ret)
  .skip))
  (.seq (.region false r41_3)
  .ret))),
  [.tmp 4, .tmp 5]⟩
theorem xf41_ok : compFunc Try.prog Try.f41 = some xf41 := by kernel_rfl
end Go.Proofs.Ytmkbnbpblhoekaa

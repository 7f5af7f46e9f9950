/- The functions of the program in X's code, printed by a program of ours. -/
import Derived.Test.YtmkbnbpblhoekaaProg
import Derived.Test.YtmkbnbpblhoekaaW0
import Derived.KernelRfl
namespace Go.Proofs.Ytmkbnbpblhoekaa
open Go.Xr
def r4_0 : List XLine := [xL 3 (.box (.slot 0)),
  xL 6 (.mv (.const (.bool false)))]
def r4_1 : List XLine := [xL 12 (.faddr 1 (.slot 3)),
  xL 13 (.load false 1 (.slot 12)),
  xL 14 (.len .slice (.slot 13)),
  xL 15 (.bin .add 2 .num (.slot 14) (.const (.int .i64 (.ofNat 1)))),
  xM 16 1,
  xM 17 2,
  xL 18 (.call (.const (.func 11 [] [])) [(.slot 15), (.slot 16), (.slot 17)]),
  xL 19 (.bslice 4 [(.int .u8 (.ofNat 0)), (.int .i64 (.ofNat 0)), .nils, .nils] [(0, 4, (.slot 18))] 1),
  xM 7 19]
def r4_2 : List XLine := [xL 20 (.load true 2 (.slot 3)),
  xM 21 7,
  xL 22 (.call (.const (.func 7 [] [])) [(.slot 20), (.slot 21)]),
  xM 23 22,
  ⟨⟨.faddr 0 (.slot 3), some 24, some (23, false)⟩, []⟩,
  ⟨⟨.load false 1 (.slot 24), some 25, some (23, false)⟩, []⟩,
  ⟨⟨.bin .gtr 3 .num (.slot 25) (.const (.int .i64 (.ofNat 8))), some 26, some (23, false)⟩, []⟩,
  xL 27 (.pick (.slot 23) (.const (.bool true)) (.slot 26)),
  xM 28 27,
  ⟨⟨.faddr 1 (.slot 3), some 29, some (28, false)⟩, []⟩,
  ⟨⟨.load false 1 (.slot 29), some 30, some (28, false)⟩, []⟩,
  ⟨⟨.len .slice (.slot 30), some 31, some (28, false)⟩, []⟩,
  ⟨⟨.bin .gtr 3 .num (.slot 31) (.const (.int .i64 (.ofNat 60))), some 32, some (28, false)⟩, []⟩,
  xL 33 (.pick (.slot 28) (.const (.bool true)) (.slot 32)),
  xM 34 33,
  ⟨⟨.mv (.slot 2), some 35, some (34, false)⟩, []⟩,
  ⟨⟨.call (.const (.func 12 [] [])) [(.slot 35)], some 36, some (34, false)⟩, []⟩,
  ⟨⟨.un .not (.slot 36), some 37, some (34, false)⟩, []⟩,
  xL 38 (.pick (.slot 34) (.const (.bool true)) (.slot 37))]
def r4_3 : List XLine := [xL 39 (.call (.const (.func 8 [] [])) []),
  xM 6 39]
def r4_4 : List XLine := [xL 41 (.load true 2 (.slot 3)),
  xL 42 (.call (.const (.func 13 [] [])) [(.slot 41)]),
  xM 40 42,
  xL 43 (.extract (.slot 40) 0),
  xL 44 (.extract (.slot 40) 1),
  xM 8 43,
  xM 9 44]
def r4_5 : List XLine := [xM 45 9,
  xL 46 (.bin .neq 28 .num (.slot 45) (.const (.int .i64 (.ofNat 0)))),
  xM 47 46,
  ⟨⟨.mv (.slot 8), some 48, some (47, false)⟩, []⟩,
  ⟨⟨.mv (.slot 7), some 49, some (47, false)⟩, []⟩,
  ⟨⟨.iaddr 4 (.slot 49) (.const (.int .i64 (.ofNat 0))), some 50, some (47, false)⟩, []⟩,
  ⟨⟨.load true 4 (.slot 50), some 51, some (47, false)⟩, []⟩,
  ⟨⟨.call (.const (.func 14 [] [])) [(.slot 48), (.slot 51)], some 52, some (47, false)⟩, []⟩,
  ⟨⟨.bin .neq 28 .num (.slot 52) (.const (.int .i64 (.ofNat 0))), some 53, some (47, false)⟩, []⟩,
  xL 54 (.pick (.slot 47) (.const (.bool true)) (.slot 53))]
def r4_6 : List XLine := [xL 55 (.call (.const (.func 8 [] [])) []),
  xM 6 55]
def r4_7 : List XLine := [xL 10 (.mv (.const (.int .i64 (.ofNat 0))))]
def r4_8 : List XLine := [xM 56 10,
  xL 57 (.faddr 0 (.slot 3)),
  xL 58 (.load false 1 (.slot 57)),
  xL 59 (.bin .shl 3 .num (.const (.int .i64 (.ofNat 1))) (.slot 58)),
  xL 60 (.bin .lss 3 .num (.slot 56) (.slot 59))]
def r4_9 : List XLine := [xL 63 (.faddr 0 (.slot 3)),
  xL 64 (.load false 1 (.slot 63)),
  xM 65 10,
  xL 66 (.call (.const (.func 15 [] [])) [(.slot 64), (.slot 65)]),
  xM 11 66]
def r4_10 : List XLine := [xL 67 (.load true 2 (.slot 3)),
  xM 68 11,
  xL 69 (.call (.const (.func 16 [] [])) [(.slot 67), (.slot 68)]),
  xM 70 69,
  ⟨⟨.mv (.slot 1), some 71, some (70, true)⟩, []⟩,
  ⟨⟨.mv (.slot 11), some 72, some (70, true)⟩, []⟩,
  ⟨⟨.call (.const (.func 17 [] [])) [(.slot 71), (.slot 72)], some 73, some (70, true)⟩, []⟩,
  ⟨⟨.un .not (.slot 73), some 74, some (70, true)⟩, []⟩,
  xL 75 (.pick (.slot 70) (.slot 74) (.const (.bool false))),
  xM 76 75,
  ⟨⟨.mv (.slot 1), some 77, some (76, true)⟩, []⟩,
  ⟨⟨.faddr 0 (.slot 3), some 78, some (76, true)⟩, []⟩,
  ⟨⟨.load false 1 (.slot 78), some 79, some (76, true)⟩, []⟩,
  ⟨⟨.call (.const (.func 18 [] [])) [(.slot 77), (.slot 79)], some 80, some (76, true)⟩, []⟩,
  xL 81 (.pick (.slot 76) (.slot 80) (.const (.bool false))),
  xM 82 81,
  ⟨⟨.load true 2 (.slot 3), some 83, some (82, true)⟩, []⟩,
  ⟨⟨.mv (.slot 1), some 84, some (82, true)⟩, []⟩,
  ⟨⟨.call (.const (.func 19 [] [])) [(.slot 83), (.slot 84)], some 85, some (82, true)⟩, []⟩,
  ⟨⟨.un .not (.slot 85), some 86, some (82, true)⟩, []⟩,
  xL 87 (.pick (.slot 82) (.slot 86) (.const (.bool false)))]
def r4_11 : List XLine := [xL 6 (.mv (.const (.bool false)))]
def r4_12 : List XLine := [xM 61 10,
  xL 62 (.bin .add 3 .num (.slot 61) (.const (.int .i64 (.ofNat 1)))),
  xM 10 62]
def r4_13 : List XLine := [xL 88 (.call (.const (.func 8 [] [])) []),
  xM 6 88]
def xf4 : XFunc := ⟨(.seq (.region false r4_0)
  (.seq (.region false r4_1)
  (.seq (.seq (.region false r4_2)
  (.cond (.slot 38)
  (.seq (.region false r4_3)
  .ret)
  .skip))
  (.seq (.region false r4_4)
  (.seq (.seq (.region false r4_5)
  (.cond (.slot 54)
  (.seq (.region false r4_6)
  .ret)
  .skip))
  (.seq (.seq (.region false r4_7)
  (.block 0 (.loop (.seq (.seq (.region false r4_8)
  (.cond (.slot 60)
  .skip
  (.exit 0)))
  (.seq (.block 1 (.seq (.region false r4_9)
  (.seq (.region false r4_10)
  (.cond (.slot 87)
  (.seq (.region false r4_11)
  .ret)
  .skip))))
  (.region false r4_12))))))
  (.seq (.region false r4_13)
  .ret))))))),
  [.tmp 6]⟩
theorem xf4_ok : compFunc Try.prog Try.f4 = some xf4 := by kernel_rfl
def r7_0 : List XLine := [xL 2 (.box (.slot 0)),
  xL 4 (.mv (.const (.bool false)))]
def r7_1 : List XLine := [xL 5 (.mv (.const (.int .i64 (.ofNat 0))))]
def r7_2 : List XLine := [xL 6 (.mv (.const (.int .i64 (.ofNat 0))))]
def r7_3 : List XLine := [xM 7 6,
  xL 8 (.faddr 1 (.slot 2)),
  xL 9 (.load false 1 (.slot 8)),
  xL 10 (.len .slice (.slot 9)),
  xL 11 (.bin .lss 3 .num (.slot 7) (.slot 10)),
  xM 12 11,
  ⟨⟨.mv (.slot 5), some 13, some (12, true)⟩, []⟩,
  ⟨⟨.bin .leq 3 .num (.slot 13) (.const (.int .i64 (.ofNat 1500))), some 14, some (12, true)⟩, []⟩,
  xL 15 (.pick (.slot 12) (.slot 14) (.const (.bool false)))]
def r7_4 : List XLine := [xM 18 5,
  xL 19 (.bin .add 3 .num (.slot 18) (.const (.int .i64 (.ofNat 1)))),
  xL 20 (.faddr 1 (.slot 2)),
  xL 21 (.load false 1 (.slot 20)),
  xM 22 6,
  xL 23 (.iaddr 1 (.slot 21) (.slot 22)),
  xL 24 (.load false 1 (.slot 23)),
  xL 25 (.len .slice (.slot 24)),
  xL 26 (.minmax true (.slot 25) (.const (.int .i64 (.ofNat 1500)))),
  xL 27 (.bin .add 3 .num (.slot 19) (.slot 26)),
  xM 5 27]
def r7_5 : List XLine := [xM 16 6,
  xL 17 (.bin .add 3 .num (.slot 16) (.const (.int .i64 (.ofNat 1)))),
  xM 6 17]
def r7_6 : List XLine := [xM 28 5,
  xL 29 (.bin .gtr 3 .num (.slot 28) (.const (.int .i64 (.ofNat 1500)))),
  xM 30 29,
  ⟨⟨.faddr 1 (.slot 2), some 31, some (30, false)⟩, []⟩,
  ⟨⟨.load false 1 (.slot 31), some 32, some (30, false)⟩, []⟩,
  ⟨⟨.len .slice (.slot 32), some 33, some (30, false)⟩, []⟩,
  ⟨⟨.bin .gtr 3 .num (.slot 33) (.const (.int .i64 (.ofNat 200))), some 34, some (30, false)⟩, []⟩,
  xL 35 (.pick (.slot 30) (.const (.bool true)) (.slot 34)),
  xM 36 35,
  ⟨⟨.mv (.slot 1), some 37, some (36, false)⟩, []⟩,
  ⟨⟨.call (.const (.func 26 [] [])) [(.slot 37), (.const (.int .i64 (.ofNat 1500)))], some 38, some (36, false)⟩, []⟩,
  ⟨⟨.bin .gtr 3 .num (.slot 38) (.const (.int .i64 (.ofNat 1500))), some 39, some (36, false)⟩, []⟩,
  xL 40 (.pick (.slot 36) (.const (.bool true)) (.slot 39)),
  xM 4 40]
def xf7 : XFunc := ⟨(.seq (.region false r7_0)
  (.seq (.region false r7_1)
  (.seq (.seq (.region false r7_2)
  (.block 0 (.loop (.seq (.seq (.region false r7_3)
  (.cond (.slot 15)
  .skip
  (.exit 0)))
  (.seq (.block 1 (.region false r7_4))
  (.region false r7_5))))))
  (.seq (.region false r7_6)
  .ret)))),
  [.tmp 4]⟩
theorem xf7_ok : compFunc Try.prog Try.f7 = some xf7 := by kernel_rfl
def r8_0 : List XLine := [xL 0 (.mv (.const (.bool false)))]
def r8_1 : List XLine := [xL 5 (.call (.const (.func 27 [] [])) []),
  xL 6 (.bslice 1 [(.int .i32 (.ofNat 0))] [(0, 1, (.const (.int .i32 (.ofNat 1))))] 1),
  xL 7 (.bslice 1 [(.int .i64 (.ofNat 0)), (.int .i64 (.ofNat 0))] [(0, 1, (.const (.int .i64 (.ofNat 1)))), (1, 1, (.const (.int .i64 (.ofNat 2))))] 2),
  xL 8 (.call (.const (.func 11 [] [])) [(.const (.int .i64 (.ofNat 5))), (.slot 6), (.slot 7)]),
  xL 9 (.bslice 1 [(.int .i64 (.ofNat 0)), (.int .i64 (.ofNat 0)), (.int .i64 (.ofNat 0))] [(0, 1, (.const (.int .i64 (.ofNat 5)))), (1, 1, (.const (.int .i64 (.ofNat 3)))), (2, 1, (.const (.int .i64 (.ofNat 4))))] 3),
  xL 10 (.call (.const (.func 11 [] [])) [(.const (.int .i64 (.ofNat 6))), (.const .nils), (.slot 9)]),
  xL 11 (.bslice 4 [(.int .u8 (.ofNat 0)), (.int .i64 (.ofNat 0)), .nils, .nils, (.int .u8 (.ofNat 0)), (.int .i64 (.ofNat 0)), .nils, .nils] [(0, 4, (.slot 8)), (4, 4, (.slot 10))] 2),
  xL 12 (.call (.const (.func 9 [] [])) [(.slot 5), (.slot 11)]),
  xM 4 12,
  xL 13 (.extract (.slot 4) 0),
  xL 14 (.extract (.slot 4) 1),
  xL 15 (.extract (.slot 4) 2),
  xM 1 13,
  xM 2 14,
  xM 3 15]
def r8_2 : List XLine := [xM 16 1,
  xM 17 16,
  ⟨⟨.mv (.slot 2), some 18, some (17, true)⟩, []⟩,
  ⟨⟨.bin .eql 3 .num (.slot 18) (.const (.int .i64 (.ofNat 2))), some 19, some (17, true)⟩, []⟩,
  xL 20 (.pick (.slot 17) (.slot 19) (.const (.bool false))),
  xM 21 20,
  ⟨⟨.mv (.slot 3), some 22, some (21, true)⟩, []⟩,
  ⟨⟨.bin .eql 28 .num (.slot 22) (.const (.int .i64 (.ofNat 0))), some 23, some (21, true)⟩, []⟩,
  xL 24 (.pick (.slot 21) (.slot 23) (.const (.bool false))),
  xM 0 24]
def xf8 : XFunc := ⟨(.seq (.region false r8_0)
  (.seq (.region false r8_1)
  (.seq (.region false r8_2)
  .ret))),
  [.tmp 0]⟩
theorem xf8_ok : compFunc Try.prog Try.f8 = some xf8 := by kernel_rfl
def r9_0 : List XLine := [xL 2 (.box (.slot 0)),
  xL 4 (.mv (.const (.bool false))),
  xL 5 (.mv (.const (.int .i64 (.ofNat 0)))),
  xL 6 (.mv (.const (.int .i64 (.ofNat 0))))]
def r9_1 : List XLine := [xL 12 (.load true 2 (.slot 2)),
  xL 13 (.call (.const (.func 13 [] [])) [(.slot 12)]),
  xM 11 13,
  xL 14 (.extract (.slot 11) 0),
  xL 15 (.extract (.slot 11) 1),
  xM 7 14,
  xM 8 15]
def r9_2 : List XLine := [xM 16 8,
  xL 17 (.bin .neq 28 .num (.slot 16) (.const (.int .i64 (.ofNat 0))))]
def r9_3 : List XLine := [xM 18 8,
  xL 4 (.mv (.const (.bool false))),
  xL 5 (.mv (.const (.int .i64 (.ofNat 0)))),
  xM 6 18]
def r9_4 : List XLine := [xL 9 (.mv (.const (.int .i64 (.ofNat 0))))]
def r9_5 : List XLine := [xM 19 9,
  xM 20 1,
  xL 21 (.len .slice (.slot 20)),
  xL 22 (.bin .lss 3 .num (.slot 19) (.slot 21)),
  xM 23 22,
  ⟨⟨.mv (.slot 7), some 24, some (23, true)⟩, []⟩,
  ⟨⟨.nilCheck (.slot 24), some 25, some (23, true)⟩, []⟩,
  ⟨⟨.faddr 3 (.slot 25), some 26, some (23, true)⟩, []⟩,
  ⟨⟨.load false 1 (.slot 26), some 27, some (23, true)⟩, []⟩,
  ⟨⟨.un .not (.slot 27), some 28, some (23, true)⟩, []⟩,
  xL 29 (.pick (.slot 23) (.slot 28) (.const (.bool false)))]
def r9_6 : List XLine := [xM 32 7,
  xM 33 1,
  xM 34 9,
  xL 35 (.iaddr 4 (.slot 33) (.slot 34)),
  xL 36 (.load true 4 (.slot 35)),
  xL 37 (.call (.const (.func 14 [] [])) [(.slot 32), (.slot 36)]),
  xM 10 37]
def r9_7 : List XLine := [xM 38 10,
  xL 39 (.bin .neq 28 .num (.slot 38) (.const (.int .i64 (.ofNat 0))))]
def r9_8 : List XLine := [xM 40 9,
  xM 41 10,
  xL 4 (.mv (.const (.bool false))),
  xM 5 40,
  xM 6 41]
def r9_9 : List XLine := [xM 30 9,
  xL 31 (.bin .add 3 .num (.slot 30) (.const (.int .i64 (.ofNat 1)))),
  xM 9 31]
def r9_10 : List XLine := [xM 42 7,
  xL 43 (.nilCheck (.slot 42)),
  xL 44 (.faddr 3 (.slot 43)),
  xL 45 (.load false 1 (.slot 44)),
  xM 46 9,
  xM 4 45,
  xM 5 46,
  xL 6 (.mv (.const (.int .i64 (.ofNat 0))))]
def xf9 : XFunc := ⟨(.seq (.region false r9_0)
  (.seq (.region false r9_1)
  (.seq (.seq (.region false r9_2)
  (.cond (.slot 17)
  (.seq (.region false r9_3)
  .ret)
  .skip))
  (.seq (.region false r9_4)
  (.seq (.block 0 (.loop (.seq (.seq (.region false r9_5)
  (.cond (.slot 29)
  .skip
  (.exit 0)))
  (.seq (.block 1 (.seq (.region false r9_6)
  (.seq (.region false r9_7)
  (.cond (.slot 39)
  (.seq (.region false r9_8)
  .ret)
  .skip))))
  (.region false r9_9)))))
  (.seq (.region false r9_10)
  .ret)))))),
  [.tmp 4, .tmp 5, .tmp 6]⟩
theorem xf9_ok : compFunc Try.prog Try.f9 = some xf9 := by kernel_rfl
def r11_0 : List XLine := [xL 6 (.alloc [(.int .u8 (.ofNat 0)), (.int .i64 (.ofNat 0)), .nils, .nils])]
def r11_1 : List XLine := [xM 7 0,
  xM 8 1,
  xM 9 2,
  xL 10 (.build [(.int .u8 (.ofNat 0)), (.int .i64 (.ofNat 0)), .nils, .nils] [(0, 1, (.const (.int .u8 (.ofNat 1)))), (1, 1, (.slot 7)), (2, 1, (.slot 8)), (3, 1, (.slot 9))]),
  ⟨⟨.store 4 (.slot 6) (.slot 10), none, none⟩, []⟩]
def xf11 : XFunc := ⟨(.seq (.region false r11_0)
  (.seq (.region false r11_1)
  .ret)),
  [.cell 6 true 4]⟩
theorem xf11_ok : compFunc Try.prog Try.f11 = some xf11 := by kernel_rfl
def r12_0 : List XLine := [xL 2 (.mv (.const (.bool false)))]
def r12_1 : List XLine := [xL 3 (.mv (.const (.int .i64 (.ofNat 0))))]
def r12_2 : List XLine := [xM 4 3,
  xM 5 0,
  xL 6 (.len .slice (.slot 5)),
  xL 7 (.bin .lss 3 .num (.slot 4) (.slot 6))]
def r12_3 : List XLine := [xM 10 0,
  xM 11 3,
  xL 12 (.iaddr 1 (.slot 10) (.slot 11)),
  xL 13 (.load false 1 (.slot 12)),
  xL 14 (.bin .lss 2 .num (.slot 13) (.const (.int .i64 (.ofNat 0))))]
def r12_4 : List XLine := [xL 2 (.mv (.const (.bool false)))]
def r12_5 : List XLine := [xM 8 3,
  xL 9 (.bin .add 3 .num (.slot 8) (.const (.int .i64 (.ofNat 1)))),
  xM 3 9]
def r12_6 : List XLine := [xL 2 (.mv (.const (.bool true)))]
def xf12 : XFunc := ⟨(.seq (.region false r12_0)
  (.seq (.seq (.region false r12_1)
  (.block 0 (.loop (.seq (.seq (.region false r12_2)
  (.cond (.slot 7)
  .skip
  (.exit 0)))
  (.seq (.block 1 (.seq (.region false r12_3)
  (.cond (.slot 14)
  (.seq (.region false r12_4)
  .ret)
  .skip)))
  (.region false r12_5))))))
  (.seq (.region false r12_6)
  .ret))),
  [.tmp 2]⟩
theorem xf12_ok : compFunc Try.prog Try.f12 = some xf12 := by kernel_rfl
def r13_0 : List XLine := [xL 1 (.box (.slot 0)),
  xL 2 (.mv (.const .nilp)),
  xL 3 (.mv (.const (.int .i64 (.ofNat 0))))]
def r13_1 : List XLine := [xL 8 (.load true 2 (.slot 1)),
  xL 9 (.call (.const (.func 30 [] [])) [(.slot 8)]),
  xM 4 9]
def r13_2 : List XLine := [xM 10 4,
  xL 11 (.bin .neq 28 .num (.slot 10) (.const (.int .i64 (.ofNat 0))))]
def r13_3 : List XLine := [xM 12 4,
  xL 2 (.mv (.const .nilp)),
  xM 3 12]
def r13_4 : List XLine := [xL 13 (.mkmap .i64),
  xL 14 (.build [.nilm, (.int .i64 (.ofNat 0)), (.int .i64 (.ofNat 0)), (.bool false), .nils, .nils] [(0, 1, (.slot 13))]),
  xL 15 (.box (.slot 14)),
  xM 5 15]
def r13_5 : List XLine := [xL 16 (.faddr 1 (.slot 1)),
  xL 17 (.load false 1 (.slot 16)),
  xL 18 (.len .slice (.slot 17)),
  xL 19 (.mv (.const (.int .i64 (.ofNat 0))))]
def r13_6 : List XLine := [xL 20 (.bin .lss 3 .num (.slot 19) (.slot 18))]
def r13_7 : List XLine := [xM 21 19,
  xL 22 (.iaddr 1 (.slot 17) (.slot 19)),
  xL 23 (.load false 1 (.slot 22)),
  xM 6 21,
  xM 7 23]
def r13_8 : List XLine := [xM 24 5,
  xM 25 6,
  xL 26 (.bin .add 3 .num (.slot 25) (.const (.int .i64 (.ofNat 1)))),
  xM 27 7,
  xL 28 (.call (.const (.func 31 [] [])) [(.slot 24), (.slot 26), (.slot 27)])]
def r13_9 : List XLine := [xL 29 (.bin .add 3 .num (.slot 19) (.const (.int .i64 (.ofNat 1)))),
  xM 19 29]
def r13_10 : List XLine := [xM 30 5,
  xM 2 30,
  xL 3 (.mv (.const (.int .i64 (.ofNat 0))))]
def xf13 : XFunc := ⟨(.seq (.region false r13_0)
  (.seq (.seq (.region false r13_1)
  (.seq (.region false r13_2)
  (.cond (.slot 11)
  (.seq (.region false r13_3)
  .ret)
  .skip)))
  (.seq (.region false r13_4)
  (.seq (.seq (.region false r13_5)
  (.block 0 (.loop (.seq (.region false r13_6)
  (.seq (.cond (.slot 20)
  .skip
  (.exit 0))
  (.seq (.block 1 (.seq (.region false r13_7)
  (.region false r13_8)))
  (.region false r13_9)))))))
  (.seq (.region false r13_10)
  .ret))))),
  [.tmp 2, .tmp 3]⟩
theorem xf13_ok : compFunc Try.prog Try.f13 = some xf13 := by kernel_rfl
def r14_0 : List XLine := [xL 3 (.box (.slot 1)),
  xL 4 (.mv (.const (.int .i64 (.ofNat 0))))]
def r14_1 : List XLine := [xM 7 0,
  xL 8 (.bin .eql 38 .ptr (.slot 7) (.const .nilp)),
  xM 6 8]
def r14_2 : List XLine := [xL 4 (.mv (.const (.int .i64 (.ofNat 1))))]
def r14_3 : List XLine := [xL 10 (.load true 4 (.slot 3)),
  xL 11 (.call (.const (.func 32 [] [])) [(.slot 10)]),
  xL 12 (.un .not (.slot 11)),
  xM 9 12]
def r14_4 : List XLine := [xL 4 (.mv (.const (.int .i64 (.ofNat 40))))]
def r14_5 : List XLine := [xL 14 (.faddr 0 (.slot 3)),
  xL 15 (.load false 1 (.slot 14)),
  xL 16 (.bin .eql 5 .num (.slot 15) (.const (.int .u8 (.ofNat 2)))),
  xM 13 16]
def r14_6 : List XLine := [xM 17 0,
  xL 18 (.faddr 3 (.slot 3)),
  xL 19 (.load false 1 (.slot 18)),
  xL 20 (.call (.const (.func 33 [] [])) [(.slot 17), (.slot 19)]),
  xM 4 20]
def r14_7 : List XLine := [xL 22 (.faddr 1 (.slot 3)),
  xL 23 (.load false 1 (.slot 22)),
  xM 24 0,
  xL 25 (.nilCheck (.slot 24)),
  xL 26 (.faddr 1 (.slot 25)),
  xL 27 (.load false 1 (.slot 26)),
  xL 28 (.bin .leq 2 .num (.slot 23) (.slot 27)),
  xM 21 28]
def r14_8 : List XLine := [xL 4 (.mv (.const (.int .i64 (.ofNat 62))))]
def r14_9 : List XLine := [xM 29 0,
  xL 30 (.faddr 2 (.slot 3)),
  xL 31 (.load false 1 (.slot 30)),
  xL 32 (.faddr 3 (.slot 3)),
  xL 33 (.load false 1 (.slot 32)),
  xL 34 (.call (.const (.func 34 [] [])) [(.slot 29), (.slot 31), (.slot 33)]),
  xM 5 34]
def r14_10 : List XLine := [xM 35 5,
  xL 36 (.bin .neq 28 .num (.slot 35) (.const (.int .i64 (.ofNat 0))))]
def r14_11 : List XLine := [xM 37 5,
  xM 4 37]
def r14_12 : List XLine := [xM 38 0,
  xL 39 (.nilCheck (.slot 38)),
  xL 40 (.faddr 2 (.slot 39)),
  xL 41 (.load false 1 (.slot 40)),
  xL 42 (.faddr 2 (.slot 3)),
  xL 43 (.load false 1 (.slot 42)),
  xL 44 (.len .slice (.slot 43)),
  xL 45 (.bin .add 3 .num (.slot 41) (.slot 44)),
  xL 46 (.bin .gtr 3 .num (.slot 45) (.const (.int .i64 (.ofNat 16777216))))]
def r14_13 : List XLine := [xL 4 (.mv (.const (.int .i64 (.ofNat 3))))]
def r14_14 : List XLine := [xM 47 0,
  xL 48 (.faddr 1 (.slot 3)),
  xL 49 (.load false 1 (.slot 48)),
  xL 50 (.faddr 2 (.slot 3)),
  xL 51 (.load false 1 (.slot 50)),
  xL 52 (.call (.const (.func 31 [] [])) [(.slot 47), (.slot 49), (.slot 51)])]
def r14_15 : List XLine := [xL 4 (.mv (.const (.int .i64 (.ofNat 0))))]
def xf14 : XFunc := ⟨(.seq (.region false r14_0)
  (.seq (.block 0 (.seq (.region false r14_1)
  (.cond (.slot 6)
  (.seq (.region false r14_2)
  .ret)
  (.seq (.region false r14_3)
  (.cond (.slot 9)
  (.seq (.region false r14_4)
  .ret)
  (.seq (.region false r14_5)
  (.cond (.slot 13)
  (.seq (.region false r14_6)
  .ret)
  (.seq (.region true r14_7)
  (.cond (.slot 21)
  (.seq (.region false r14_8)
  .ret)
  .skip)))))))))
  (.seq (.seq (.region false r14_9)
  (.seq (.region false r14_10)
  (.cond (.slot 36)
  (.seq (.region false r14_11)
  .ret)
  .skip)))
  (.seq (.seq (.region true r14_12)
  (.cond (.slot 46)
  (.seq (.region false r14_13)
  .ret)
  .skip))
  (.seq (.region false r14_14)
  (.seq (.region false r14_15)
  .ret)))))),
  [.tmp 4]⟩
theorem xf14_ok : compFunc Try.prog Try.f14 = some xf14 := by kernel_rfl
def r15_0 : List XLine := [xL 4 (.mv (.const .nils))]
def r15_1 : List XLine := [xL 5 (.mv (.const .nils))]
def r15_2 : List XLine := [xL 6 (.mv (.const (.int .i64 (.ofNat 0))))]
def r15_3 : List XLine := [xM 7 6,
  xM 8 0,
  xL 9 (.bin .lss 3 .num (.slot 7) (.slot 8))]
def r15_4 : List XLine := [xM 12 5,
  xM 13 1,
  xM 14 6,
  xL 15 (.bin .shr 3 .num (.slot 13) (.slot 14)),
  xL 16 (.bin .and 3 .num (.slot 15) (.const (.int .i64 (.ofNat 1)))),
  xL 17 (.bin .eql 3 .num (.slot 16) (.const (.int .i64 (.ofNat 1)))),
  xL 18 (.bslice 1 [(.bool false)] [(0, 1, (.slot 17))] 1),
  xL 19 (.append 1 1 (.slot 12) (.slot 18)),
  xM 5 19]
def r15_5 : List XLine := [xM 10 6,
  xL 11 (.bin .add 3 .num (.slot 10) (.const (.int .i64 (.ofNat 1)))),
  xM 6 11]
def r15_6 : List XLine := [xM 20 5,
  xM 4 20]
def xf15 : XFunc := ⟨(.seq (.region false r15_0)
  (.seq (.region false r15_1)
  (.seq (.seq (.region false r15_2)
  (.block 0 (.loop (.seq (.seq (.region false r15_3)
  (.cond (.slot 9)
  .skip
  (.exit 0)))
  (.seq (.block 1 (.region false r15_4))
  (.region false r15_5))))))
  (.seq (.region false r15_6)
  .ret)))),
  [.tmp 4]⟩
theorem xf15_ok : compFunc Try.prog Try.f15 = some xf15 := by kernel_rfl
def r16_0 : List XLine := [xL 2 (.box (.slot 0)),
  xL 4 (.mv (.const (.bool false)))]
def r16_1 : List XLine := [xL 5 (.mv (.const (.int .i64 (.ofNat 0))))]
def r16_2 : List XLine := [xM 6 5,
  xL 7 (.faddr 1 (.slot 2)),
  xL 8 (.load false 1 (.slot 7)),
  xL 9 (.len .slice (.slot 8)),
  xL 10 (.bin .lss 3 .num (.slot 6) (.slot 9))]
def r16_3 : List XLine := [xL 13 (.faddr 1 (.slot 2)),
  xL 14 (.load false 1 (.slot 13)),
  xM 15 5,
  xL 16 (.iaddr 1 (.slot 14) (.slot 15)),
  xL 17 (.load false 1 (.slot 16)),
  xM 18 1,
  xL 19 (.call (.const (.func 17 [] [])) [(.slot 17), (.slot 18)]),
  xL 20 (.un .not (.slot 19))]
def r16_4 : List XLine := [xL 4 (.mv (.const (.bool false)))]
def r16_5 : List XLine := [xM 11 5,
  xL 12 (.bin .add 3 .num (.slot 11) (.const (.int .i64 (.ofNat 1)))),
  xM 5 12]
def r16_6 : List XLine := [xL 4 (.mv (.const (.bool true)))]
def xf16 : XFunc := ⟨(.seq (.region false r16_0)
  (.seq (.seq (.region false r16_1)
  (.block 0 (.loop (.seq (.seq (.region false r16_2)
  (.cond (.slot 10)
  .skip
  (.exit 0)))
  (.seq (.block 1 (.seq (.region false r16_3)
  (.cond (.slot 20)
  (.seq (.region false r16_4)
  .ret)
  .skip)))
  (.region false r16_5))))))
  (.seq (.region false r16_6)
  .ret))),
  [.tmp 4]⟩
theorem xf16_ok : compFunc Try.prog Try.f16 = some xf16 := by kernel_rfl
def r17_0 : List XLine := [xL 4 (.mv (.const (.bool false)))]
def r17_1 : List XLine := [xL 5 (.mv (.const (.int .i64 (.ofNat 0))))]
def r17_2 : List XLine := [xM 6 5,
  xM 7 0,
  xL 8 (.len .slice (.slot 7)),
  xL 9 (.bin .lss 3 .num (.slot 6) (.slot 8))]
def r17_3 : List XLine := [xM 12 0,
  xM 13 5,
  xL 14 (.iaddr 1 (.slot 12) (.slot 13)),
  xL 15 (.load false 1 (.slot 14)),
  xM 16 1,
  xL 17 (.call (.const (.func 35 [] [])) [(.slot 15), (.slot 16)])]
def r17_4 : List XLine := [xL 4 (.mv (.const (.bool true)))]
def r17_5 : List XLine := [xM 10 5,
  xL 11 (.bin .add 3 .num (.slot 10) (.const (.int .i64 (.ofNat 1)))),
  xM 5 11]
def r17_6 : List XLine := [xL 4 (.mv (.const (.bool false)))]
def xf17 : XFunc := ⟨(.seq (.region false r17_0)
  (.seq (.seq (.region false r17_1)
  (.block 0 (.loop (.seq (.seq (.region false r17_2)
  (.cond (.slot 9)
  .skip
  (.exit 0)))
  (.seq (.block 1 (.seq (.region false r17_3)
  (.cond (.slot 17)
  (.seq (.region false r17_4)
  .ret)
  .skip)))
  (.region false r17_5))))))
  (.seq (.region false r17_6)
  .ret))),
  [.tmp 4]⟩
theorem xf17_ok : compFunc Try.prog Try.f17 = some xf17 := by kernel_rfl
def r18_0 : List XLine := [xL 4 (.mv (.const (.bool false)))]
def r18_1 : List XLine := [xL 5 (.mv (.const (.int .i64 (.ofNat 0))))]
def r18_2 : List XLine := [xM 6 5,
  xM 7 0,
  xL 8 (.len .slice (.slot 7)),
  xL 9 (.bin .lss 3 .num (.slot 6) (.slot 8))]
def r18_3 : List XLine := [xM 12 0,
  xM 13 5,
  xL 14 (.iaddr 1 (.slot 12) (.slot 13)),
  xL 15 (.load false 1 (.slot 14)),
  xL 16 (.call (.const (.func 36 [] [])) [(.slot 15)]),
  xM 17 1,
  xL 18 (.bin .gtr 3 .num (.slot 16) (.slot 17))]
def r18_4 : List XLine := [xL 4 (.mv (.const (.bool false)))]
def r18_5 : List XLine := [xM 10 5,
  xL 11 (.bin .add 3 .num (.slot 10) (.const (.int .i64 (.ofNat 1)))),
  xM 5 11]
def r18_6 : List XLine := [xL 4 (.mv (.const (.bool true)))]
def xf18 : XFunc := ⟨(.seq (.region false r18_0)
  (.seq (.seq (.region false r18_1)
  (.block 0 (.loop (.seq (.seq (.region false r18_2)
  (.cond (.slot 9)
  .skip
  (.exit 0)))
  (.seq (.block 1 (.seq (.region false r18_3)
  (.cond (.slot 18)
  (.seq (.region false r18_4)
  .ret)
  .skip)))
  (.region false r18_5))))))
  (.seq (.region false r18_6)
  .ret))),
  [.tmp 4]⟩
theorem xf18_ok : compFunc Try.prog Try.f18 = some xf18 := by kernel_rfl
def r19_0 : List XLine := [xL 2 (.box (.slot 0)),
  xL 4 (.mv (.const (.bool false)))]
def r19_1 : List XLine := [xL 5 (.mv (.const (.int .i64 (.ofNat 0))))]
def r19_2 : List XLine := [xM 6 5,
  xL 7 (.faddr 1 (.slot 2)),
  xL 8 (.load false 1 (.slot 7)),
  xL 9 (.len .slice (.slot 8)),
  xL 10 (.bin .lss 3 .num (.slot 6) (.slot 9)),
  xM 11 10,
  ⟨⟨.mv (.slot 1), some 12, some (11, true)⟩, []⟩,
  ⟨⟨.len .slice (.slot 12), some 13, some (11, true)⟩, []⟩,
  ⟨⟨.bin .gtr 3 .num (.slot 13) (.const (.int .i64 (.ofNat 0))), some 14, some (11, true)⟩, []⟩,
  xL 15 (.pick (.slot 11) (.slot 14) (.const (.bool false)))]
def r19_3 : List XLine := [xL 18 (.faddr 1 (.slot 2)),
  xL 19 (.load false 1 (.slot 18)),
  xM 20 5,
  xL 21 (.iaddr 1 (.slot 19) (.slot 20)),
  xL 22 (.load false 1 (.slot 21)),
  xM 23 1,
  xL 24 (.iaddr 1 (.slot 23) (.const (.int .i64 (.ofNat 0)))),
  xL 25 (.load false 1 (.slot 24)),
  xL 26 (.un .neg (.slot 25)),
  xL 27 (.call (.const (.func 37 [] [])) [(.slot 22), (.slot 26)])]
def r19_4 : List XLine := [xL 4 (.mv (.const (.bool false)))]
def r19_5 : List XLine := [xM 16 5,
  xL 17 (.bin .add 3 .num (.slot 16) (.const (.int .i64 (.ofNat 1)))),
  xM 5 17]
def r19_6 : List XLine := [xM 28 1,
  xL 29 (.len .slice (.slot 28)),
  xL 30 (.bin .gtr 3 .num (.slot 29) (.const (.int .i64 (.ofNat 0)))),
  xM 4 30]
def xf19 : XFunc := ⟨(.seq (.region false r19_0)
  (.seq (.seq (.region false r19_1)
  (.block 0 (.loop (.seq (.seq (.region false r19_2)
  (.cond (.slot 15)
  .skip
  (.exit 0)))
  (.seq (.block 1 (.seq (.region true r19_3)
  (.cond (.slot 27)
  (.seq (.region false r19_4)
  .ret)
  .skip)))
  (.region false r19_5))))))
  (.seq (.region false r19_6)
  .ret))),
  [.tmp 4]⟩
theorem xf19_ok : compFunc Try.prog Try.f19 = some xf19 := by kernel_rfl
def r26_0 : List XLine := [xL 4 (.mv (.const (.int .i64 (.ofNat 0))))]
def r26_1 : List XLine := [xL 5 (.mv (.const (.int .i64 (.ofNat 0))))]
def r26_2 : List XLine := [xL 6 (.mv (.const (.int .i64 (.ofNat 0))))]
def r26_3 : List XLine := [xM 7 6,
  xM 8 0,
  xL 9 (.len .slice (.slot 8)),
  xL 10 (.bin .lss 3 .num (.slot 7) (.slot 9)),
  xM 11 10,
  ⟨⟨.mv (.slot 5), some 12, some (11, true)⟩, []⟩,
  ⟨⟨.mv (.slot 1), some 13, some (11, true)⟩, []⟩,
  ⟨⟨.bin .leq 3 .num (.slot 12) (.slot 13), some 14, some (11, true)⟩, []⟩,
  xL 15 (.pick (.slot 11) (.slot 14) (.const (.bool false)))]
def r26_4 : List XLine := [xM 18 5,
  xL 19 (.bin .add 3 .num (.slot 18) (.const (.int .i64 (.ofNat 1)))),
  xM 20 0,
  xM 21 6,
  xL 22 (.iaddr 4 (.slot 20) (.slot 21)),
  xL 23 (.faddr 2 (.slot 22)),
  xL 24 (.load false 1 (.slot 23)),
  xL 25 (.len .slice (.slot 24)),
  xM 26 1,
  xL 27 (.minmax true (.slot 25) (.slot 26)),
  xL 28 (.bin .add 3 .num (.slot 19) (.slot 27)),
  xM 29 0,
  xM 30 6,
  xL 31 (.iaddr 4 (.slot 29) (.slot 30)),
  xL 32 (.faddr 3 (.slot 31)),
  xL 33 (.load false 1 (.slot 32)),
  xL 34 (.len .slice (.slot 33)),
  xM 35 1,
  xL 36 (.minmax true (.slot 34) (.slot 35)),
  xL 37 (.bin .add 3 .num (.slot 28) (.slot 36)),
  xM 5 37]
def r26_5 : List XLine := [xM 16 6,
  xL 17 (.bin .add 3 .num (.slot 16) (.const (.int .i64 (.ofNat 1)))),
  xM 6 17]
def r26_6 : List XLine := [xM 38 5,
  xM 4 38]
def xf26 : XFunc := ⟨(.seq (.region false r26_0)
  (.seq (.region false r26_1)
  (.seq (.seq (.region false r26_2)
  (.block 0 (.loop (.seq (.seq (.region false r26_3)
  (.cond (.slot 15)
  .skip
  (.exit 0)))
  (.seq (.block 1 (.region true r26_4))
  (.region false r26_5))))))
  (.seq (.region false r26_6)
  .ret)))),
  [.tmp 4]⟩
theorem xf26_ok : compFunc Try.prog Try.f26 = some xf26 := by kernel_rfl
def r27_0 : List XLine := [xL 0 (.alloc [(.int .i64 (.ofNat 0)), .nils])]
def r27_1 : List XLine := [xL 1 (.bslice 1 [(.int .i32 (.ofNat 0)), (.int .i32 (.ofNat 0))] [(0, 1, (.const (.int .i32 (.ofNat 1)))), (1, 1, (.const (.int .i32 (.ofNat 2))))] 2),
  xL 2 (.bslice 1 [(.int .i32 (.ofNat 0)), (.int .i32 (.ofNat 0))] [(0, 1, (.const (.int .i32 (.ofNat 1)))), (1, 1, (.const (.int .i32 (.negSucc 1))))] 2),
  xL 3 (.bslice 1 [(.int .i32 (.ofNat 0)), (.int .i32 (.ofNat 0))] [(0, 1, (.const (.int .i32 (.negSucc 0)))), (1, 1, (.const (.int .i32 (.ofNat 2))))] 2),
  xL 4 (.bslice 1 [(.int .i32 (.ofNat 0)), (.int .i32 (.ofNat 0))] [(0, 1, (.const (.int .i32 (.negSucc 0)))), (1, 1, (.const (.int .i32 (.negSucc 1))))] 2),
  xL 5 (.bslice 1 [.nils, .nils, .nils, .nils] [(0, 1, (.slot 1)), (1, 1, (.slot 2)), (2, 1, (.slot 3)), (3, 1, (.slot 4))] 4),
  xL 6 (.build [(.int .i64 (.ofNat 0)), .nils] [(0, 1, (.const (.int .i64 (.ofNat 2)))), (1, 1, (.slot 5))]),
  ⟨⟨.store 2 (.slot 0) (.slot 6), none, none⟩, []⟩]
def xf27 : XFunc := ⟨(.seq (.region false r27_0)
  (.seq (.region false r27_1)
  .ret)),
  [.cell 0 true 2]⟩
theorem xf27_ok : compFunc Try.prog Try.f27 = some xf27 := by kernel_rfl
def r30_0 : List XLine := [xL 1 (.box (.slot 0)),
  xL 2 (.mv (.const (.int .i64 (.ofNat 0))))]
def r30_1 : List XLine := [xL 9 (.faddr 0 (.slot 1)),
  xL 10 (.load false 1 (.slot 9)),
  xL 11 (.bin .lss 3 .num (.slot 10) (.const (.int .i64 (.ofNat 0)))),
  xM 8 11]
def r30_2 : List XLine := [xL 12 (.faddr 0 (.slot 1)),
  xL 13 (.load false 1 (.slot 12)),
  xL 14 (.bin .gtr 3 .num (.slot 13) (.const (.int .i64 (.ofNat 1048576)))),
  xM 8 14]
def r30_3 : List XLine := [xL 2 (.mv (.const (.int .i64 (.ofNat 2))))]
def r30_4 : List XLine := [xL 16 (.faddr 1 (.slot 1)),
  xL 17 (.load false 1 (.slot 16)),
  xL 18 (.len .slice (.slot 17)),
  xL 19 (.bin .gtr 3 .num (.slot 18) (.const (.int .i64 (.ofNat 1048576)))),
  xM 15 19]
def r30_5 : List XLine := [xL 2 (.mv (.const (.int .i64 (.ofNat 3))))]
def r30_6 : List XLine := [xL 3 (.mv (.const (.int .i64 (.ofNat 16777216))))]
def r30_7 : List XLine := [xL 20 (.faddr 1 (.slot 1)),
  xL 21 (.load false 1 (.slot 20)),
  xL 22 (.len .slice (.slot 21)),
  xL 23 (.mv (.const (.int .i64 (.ofNat 0))))]
def r30_8 : List XLine := [xL 24 (.bin .lss 3 .num (.slot 23) (.slot 22))]
def r30_9 : List XLine := [xL 25 (.iaddr 1 (.slot 21) (.slot 23)),
  xL 26 (.load false 1 (.slot 25)),
  xM 5 26]
def r30_10 : List XLine := [xM 27 5,
  xL 28 (.len .slice (.slot 27)),
  xL 29 (.mv (.const (.int .i64 (.ofNat 0))))]
def r30_11 : List XLine := [xL 30 (.bin .lss 3 .num (.slot 29) (.slot 28))]
def r30_12 : List XLine := [xL 31 (.iaddr 1 (.slot 27) (.slot 29)),
  xL 32 (.load false 1 (.slot 31)),
  xM 7 32]
def r30_13 : List XLine := [xM 33 3,
  xL 34 (.bin .eql 3 .num (.slot 33) (.const (.int .i64 (.ofNat 0))))]
def r30_14 : List XLine := [xL 2 (.mv (.const (.int .i64 (.ofNat 3))))]
def r30_15 : List XLine := [xM 35 3,
  xL 36 (.bin .sub 3 .num (.slot 35) (.const (.int .i64 (.ofNat 1)))),
  xM 3 36]
def r30_16 : List XLine := [xM 37 7,
  xL 38 (.bin .eql 57 .num (.slot 37) (.const (.int .i32 (.ofNat 0)))),
  xM 39 38,
  ⟨⟨.mv (.slot 7), some 40, some (39, false)⟩, []⟩,
  ⟨⟨.faddr 0 (.slot 1), some 42, some (39, false)⟩, []⟩,
  ⟨⟨.load false 1 (.slot 42), some 43, some (39, false)⟩, []⟩,
  ⟨⟨.call (.const (.func 47 [] [])) [(.slot 40)], some 41, some (39, false)⟩, [⟨.load false 1 (.slot 42), some 43, some (39, false)⟩]⟩,
  ⟨⟨.bin .gtr 3 .num (.slot 41) (.slot 43), some 44, some (39, false)⟩, []⟩,
  xL 45 (.pick (.slot 39) (.const (.bool true)) (.slot 44))]
def r30_17 : List XLine := [xL 2 (.mv (.const (.int .i64 (.ofNat 4))))]
def r30_18 : List XLine := [xL 46 (.bin .add 3 .num (.slot 29) (.const (.int .i64 (.ofNat 1)))),
  xM 29 46]
def r30_19 : List XLine := [xL 47 (.bin .add 3 .num (.slot 23) (.const (.int .i64 (.ofNat 1)))),
  xM 23 47]
def r30_20 : List XLine := [xL 2 (.mv (.const (.int .i64 (.ofNat 0))))]
def xf30 : XFunc := ⟨(.seq (.region false r30_0)
  (.seq (.block 0 (.seq (.seq (.region false r30_1)
  (.cond (.slot 8)
  .skip
  (.region false r30_2)))
  (.cond (.slot 8)
  (.seq (.region false r30_3)
  .ret)
  (.seq (.region false r30_4)
  (.cond (.slot 15)
  (.seq (.region false r30_5)
  .ret)
  .skip)))))
  (.seq (.region false r30_6)
  (.seq (.seq (.region false r30_7)
  (.block 1 (.loop (.seq (.region false r30_8)
  (.seq (.cond (.slot 24)
  .skip
  (.exit 1))
  (.seq (.block 2 (.seq (.region false r30_9)
  (.seq (.region false r30_10)
  (.block 3 (.loop (.seq (.region false r30_11)
  (.seq (.cond (.slot 30)
  .skip
  (.exit 3))
  (.seq (.block 4 (.seq (.region false r30_12)
  (.seq (.seq (.region false r30_13)
  (.cond (.slot 34)
  (.seq (.region false r30_14)
  .ret)
  .skip))
  (.seq (.region false r30_15)
  (.seq (.region true r30_16)
  (.cond (.slot 45)
  (.seq (.region false r30_17)
  .ret)
  .skip))))))
  (.region false r30_18)))))))))
  (.region false r30_19)))))))
  (.seq (.region false r30_20)
  .ret))))),
  [.tmp 2]⟩
theorem xf30_ok : compFunc Try.prog Try.f30 = some xf30 := by kernel_rfl
def r31_0 : List XLine := [xM 9 2,
  xL 10 (.call (.const (.func 48 [] [])) [(.slot 9)]),
  xM 8 10,
  xL 11 (.extract (.slot 8) 0),
  xL 12 (.extract (.slot 8) 1),
  xM 6 11,
  xM 7 12]
def r31_1 : List XLine := [xM 13 0,
  xL 14 (.nilCheck (.slot 13)),
  xL 15 (.faddr 0 (.slot 14)),
  xL 16 (.load false 1 (.slot 15)),
  xM 17 1,
  xM 18 2,
  xM 20 6,
  xM 21 7,
  ⟨⟨.call (.const (.func 49 [] [])) [(.slot 18)], some 19, none⟩, [⟨.load false 1 (.slot 15), some 16, none⟩]⟩,
  xL 22 (.build [.nils, .nils, (.bool false)] [(0, 1, (.slot 19)), (1, 1, (.slot 20)), (2, 1, (.slot 21))]),
  ⟨⟨.box (.slot 22), some 23, none⟩, [⟨.load false 1 (.slot 15), some 16, none⟩]⟩,
  ⟨⟨.mapup .i64 (.slot 16) (.slot 17) (.slot 23), none, none⟩, []⟩]
def r31_2 : List XLine := [xM 24 0,
  xM 25 1,
  xL 26 (.nilCheck (.slot 24)),
  xL 27 (.faddr 1 (.slot 26)),
  ⟨⟨.store 1 (.slot 27) (.slot 25), none, none⟩, []⟩]
def r31_3 : List XLine := [xM 28 0,
  xL 29 (.nilCheck (.slot 28)),
  xL 30 (.faddr 2 (.slot 29)),
  xL 31 (.load false 1 (.slot 30)),
  xM 32 2,
  xL 33 (.len .slice (.slot 32)),
  xL 34 (.bin .add 3 .num (.slot 31) (.slot 33)),
  xL 35 (.nilCheck (.slot 28)),
  xL 36 (.faddr 2 (.slot 35)),
  ⟨⟨.store 1 (.slot 36) (.slot 34), none, none⟩, []⟩]
def r31_4 : List XLine := [xM 37 0,
  xM 38 0,
  xL 39 (.nilCheck (.slot 38)),
  xL 40 (.faddr 3 (.slot 39)),
  xL 41 (.load false 1 (.slot 40)),
  xM 42 41,
  ⟨⟨.mv (.slot 2), some 43, some (42, false)⟩, []⟩,
  ⟨⟨.len .slice (.slot 43), some 44, some (42, false)⟩, []⟩,
  ⟨⟨.bin .eql 3 .num (.slot 44) (.const (.int .i64 (.ofNat 0))), some 45, some (42, false)⟩, []⟩,
  xL 46 (.pick (.slot 42) (.const (.bool true)) (.slot 45)),
  xL 47 (.nilCheck (.slot 37)),
  xL 48 (.faddr 3 (.slot 47)),
  ⟨⟨.store 1 (.slot 48) (.slot 46), none, none⟩, []⟩]
def xf31 : XFunc := ⟨(.seq (.region false r31_0)
  (.seq (.region true r31_1)
  (.seq (.region false r31_2)
  (.seq (.region false r31_3)
  (.region false r31_4))))),
  []⟩
theorem xf31_ok : compFunc Try.prog Try.f31 = some xf31 := by kernel_rfl
def r32_0 : List XLine := [xL 1 (.box (.slot 0)),
  xL 2 (.mv (.const (.bool false)))]
def r32_1 : List XLine := [xL 7 (.faddr 2 (.slot 1)),
  xL 8 (.load false 1 (.slot 7)),
  xL 9 (.len .slice (.slot 8)),
  xL 10 (.mv (.const (.int .i64 (.ofNat 0))))]
def r32_2 : List XLine := [xL 11 (.bin .lss 3 .num (.slot 10) (.slot 9))]
def r32_3 : List XLine := [xL 12 (.iaddr 1 (.slot 8) (.slot 10)),
  xL 13 (.load false 1 (.slot 12)),
  xM 4 13]
def r32_4 : List XLine := [xM 14 4,
  xL 15 (.bin .eql 57 .num (.slot 14) (.const (.int .i32 (.ofNat 0)))),
  xM 16 15,
  ⟨⟨.mv (.slot 4), some 17, some (16, false)⟩, []⟩,
  ⟨⟨.bin .lss 57 .num (.slot 17) (.const (.int .i32 (.negSucc 1048575))), some 18, some (16, false)⟩, []⟩,
  xL 19 (.pick (.slot 16) (.const (.bool true)) (.slot 18)),
  xM 20 19,
  ⟨⟨.mv (.slot 4), some 21, some (20, false)⟩, []⟩,
  ⟨⟨.bin .gtr 57 .num (.slot 21) (.const (.int .i32 (.ofNat 1048576))), some 22, some (20, false)⟩, []⟩,
  xL 23 (.pick (.slot 20) (.const (.bool true)) (.slot 22))]
def r32_5 : List XLine := [xL 2 (.mv (.const (.bool false)))]
def r32_6 : List XLine := [xL 24 (.bin .add 3 .num (.slot 10) (.const (.int .i64 (.ofNat 1)))),
  xM 10 24]
def r32_7 : List XLine := [xL 25 (.faddr 3 (.slot 1)),
  xL 26 (.load false 1 (.slot 25)),
  xL 27 (.len .slice (.slot 26)),
  xL 28 (.mv (.const (.int .i64 (.ofNat 0))))]
def r32_8 : List XLine := [xL 29 (.bin .lss 3 .num (.slot 28) (.slot 27))]
def r32_9 : List XLine := [xL 30 (.iaddr 1 (.slot 26) (.slot 28)),
  xL 31 (.load false 1 (.slot 30)),
  xM 6 31]
def r32_10 : List XLine := [xM 32 6,
  xL 33 (.bin .eql 2 .num (.slot 32) (.const (.int .i64 (.ofNat 0)))),
  xM 34 33,
  ⟨⟨.mv (.slot 6), some 35, some (34, false)⟩, []⟩,
  ⟨⟨.bin .lss 2 .num (.slot 35) (.const (.int .i64 (.negSucc 4611686018427387902))), some 36, some (34, false)⟩, []⟩,
  xL 37 (.pick (.slot 34) (.const (.bool true)) (.slot 36)),
  xM 38 37,
  ⟨⟨.mv (.slot 6), some 39, some (38, false)⟩, []⟩,
  ⟨⟨.bin .gtr 2 .num (.slot 39) (.const (.int .i64 (.ofNat 4611686018427387903))), some 40, some (38, false)⟩, []⟩,
  xL 41 (.pick (.slot 38) (.const (.bool true)) (.slot 40)),
  xM 42 41,
  ⟨⟨.mv (.slot 6), some 43, some (42, false)⟩, []⟩,
  ⟨⟨.bin .lss 2 .num (.slot 43) (.const (.int .i64 (.ofNat 0))), some 44, some (42, false)⟩, []⟩,
  ⟨⟨.mv (.slot 44), some 45, some (42, false)⟩, []⟩,
  ⟨⟨.faddr 0 (.slot 1), some 46, some (45, true)⟩, []⟩,
  ⟨⟨.load false 1 (.slot 46), some 47, some (45, true)⟩, []⟩,
  ⟨⟨.bin .eql 5 .num (.slot 47) (.const (.int .u8 (.ofNat 2))), some 48, some (45, true)⟩, []⟩,
  ⟨⟨.pick (.slot 45) (.slot 48) (.const (.bool false)), some 49, some (42, false)⟩, []⟩,
  xL 50 (.pick (.slot 42) (.const (.bool true)) (.slot 49))]
def r32_11 : List XLine := [xL 2 (.mv (.const (.bool false)))]
def r32_12 : List XLine := [xL 51 (.bin .add 3 .num (.slot 28) (.const (.int .i64 (.ofNat 1)))),
  xM 28 51]
def r32_13 : List XLine := [xL 52 (.faddr 0 (.slot 1)),
  xL 53 (.load false 1 (.slot 52))]
def r32_14 : List XLine := [xL 55 (.bin .eql 5 .num (.slot 53) (.const (.int .u8 (.ofNat 1)))),
  xM 54 55]
def r32_15 : List XLine := [xL 56 (.faddr 1 (.slot 1)),
  xL 57 (.load false 1 (.slot 56)),
  xL 58 (.bin .geq 2 .num (.slot 57) (.const (.int .i64 (.ofNat 1)))),
  xM 59 58,
  ⟨⟨.faddr 1 (.slot 1), some 60, some (59, true)⟩, []⟩,
  ⟨⟨.load false 1 (.slot 60), some 61, some (59, true)⟩, []⟩,
  ⟨⟨.bin .leq 2 .num (.slot 61) (.const (.int .i64 (.ofNat 4611686018427387903))), some 62, some (59, true)⟩, []⟩,
  xL 63 (.pick (.slot 59) (.slot 62) (.const (.bool false))),
  xM 2 63]
def r32_16 : List XLine := [xL 65 (.bin .eql 5 .num (.slot 53) (.const (.int .u8 (.ofNat 2)))),
  xM 64 65]
def r32_17 : List XLine := [xL 66 (.faddr 1 (.slot 1)),
  xL 67 (.load false 1 (.slot 66)),
  xL 68 (.bin .geq 2 .num (.slot 67) (.const (.int .i64 (.ofNat 0)))),
  xM 69 68,
  ⟨⟨.faddr 1 (.slot 1), some 70, some (69, true)⟩, []⟩,
  ⟨⟨.load false 1 (.slot 70), some 71, some (69, true)⟩, []⟩,
  ⟨⟨.bin .leq 2 .num (.slot 71) (.const (.int .i64 (.ofNat 4611686018427387903))), some 72, some (69, true)⟩, []⟩,
  xL 73 (.pick (.slot 69) (.slot 72) (.const (.bool false))),
  xM 74 73,
  ⟨⟨.faddr 2 (.slot 1), some 75, some (74, true)⟩, []⟩,
  ⟨⟨.load false 1 (.slot 75), some 76, some (74, true)⟩, []⟩,
  ⟨⟨.len .slice (.slot 76), some 77, some (74, true)⟩, []⟩,
  ⟨⟨.bin .eql 3 .num (.slot 77) (.const (.int .i64 (.ofNat 0))), some 78, some (74, true)⟩, []⟩,
  xL 79 (.pick (.slot 74) (.slot 78) (.const (.bool false))),
  xM 2 79]
def r32_18 : List XLine := [xL 2 (.mv (.const (.bool false)))]
def xf32 : XFunc := ⟨(.seq (.region false r32_0)
  (.seq (.seq (.region false r32_1)
  (.block 0 (.loop (.seq (.region false r32_2)
  (.seq (.cond (.slot 11)
  .skip
  (.exit 0))
  (.seq (.block 1 (.seq (.region false r32_3)
  (.seq (.region false r32_4)
  (.cond (.slot 23)
  (.seq (.region false r32_5)
  .ret)
  .skip))))
  (.region false r32_6)))))))
  (.seq (.seq (.region false r32_7)
  (.block 2 (.loop (.seq (.region false r32_8)
  (.seq (.cond (.slot 29)
  .skip
  (.exit 2))
  (.seq (.block 3 (.seq (.region false r32_9)
  (.seq (.region false r32_10)
  (.cond (.slot 50)
  (.seq (.region false r32_11)
  .ret)
  .skip))))
  (.region false r32_12)))))))
  (.seq (.seq (.region false r32_13)
  (.block 4 (.seq (.region false r32_14)
  (.cond (.slot 54)
  (.seq (.region false r32_15)
  .ret)
  (.seq (.region false r32_16)
  (.cond (.slot 64)
  (.seq (.region false r32_17)
  .ret)
  .skip))))))
  (.seq (.region false r32_18)
  .ret))))),
  [.tmp 2]⟩
theorem xf32_ok : compFunc Try.prog Try.f32 = some xf32 := by kernel_rfl
def r33_0 : List XLine := [xL 4 (.mv (.const (.int .i64 (.ofNat 0))))]
def r33_1 : List XLine := [xL 9 (.mkmap .i64),
  xM 5 9]
def r33_2 : List XLine := [xM 10 1,
  xL 11 (.len .slice (.slot 10)),
  xL 12 (.mv (.const (.int .i64 (.ofNat 0))))]
def r33_3 : List XLine := [xL 13 (.bin .lss 3 .num (.slot 12) (.slot 11))]
def r33_4 : List XLine := [xL 14 (.iaddr 1 (.slot 10) (.slot 12)),
  xL 15 (.load false 1 (.slot 14)),
  xM 7 15]
def r33_5 : List XLine := [xM 16 0,
  xL 17 (.nilCheck (.slot 16)),
  xL 18 (.faddr 0 (.slot 17)),
  xL 19 (.load false 1 (.slot 18)),
  xM 20 7,
  xL 21 (.lookup .i64 .nilp (.slot 19) (.slot 20) false),
  xL 22 (.bin .eql 80 .ptr (.slot 21) (.const .nilp)),
  xM 23 22,
  ⟨⟨.mv (.slot 5), some 24, some (23, false)⟩, []⟩,
  ⟨⟨.mv (.slot 7), some 25, some (23, false)⟩, []⟩,
  ⟨⟨.lookup .i64 (.bool false) (.slot 24) (.slot 25) false, some 26, some (23, false)⟩, []⟩,
  xL 27 (.pick (.slot 23) (.const (.bool true)) (.slot 26))]
def r33_6 : List XLine := [xL 4 (.mv (.const (.int .i64 (.ofNat 5))))]
def r33_7 : List XLine := [xM 28 5,
  xM 29 7,
  ⟨⟨.mapup .i64 (.slot 28) (.slot 29) (.const (.bool true)), none, none⟩, []⟩]
def r33_8 : List XLine := [xL 30 (.bin .add 3 .num (.slot 12) (.const (.int .i64 (.ofNat 1)))),
  xM 12 30]
def r33_9 : List XLine := [xM 31 5,
  xL 32 (.range .i64 (.slot 31))]
def r33_10 : List XLine := [xL 33 (.next (.slot 32)),
  xL 34 (.extract (.slot 33) 0)]
def r33_11 : List XLine := [xL 35 (.entry (.slot 32)),
  xL 36 (.extract (.slot 35) 0),
  xM 8 36]
def r33_12 : List XLine := [xM 37 0,
  xL 38 (.nilCheck (.slot 37)),
  xL 39 (.faddr 2 (.slot 38)),
  xL 40 (.load false 1 (.slot 39)),
  xM 41 0,
  xL 42 (.nilCheck (.slot 41)),
  xL 43 (.faddr 0 (.slot 42)),
  xL 44 (.load false 1 (.slot 43)),
  xM 45 8,
  xL 46 (.lookup .i64 .nilp (.slot 44) (.slot 45) false),
  xL 47 (.nilCheck (.slot 46)),
  xL 48 (.faddr 0 (.slot 47)),
  xL 49 (.load false 1 (.slot 48)),
  xL 50 (.len .slice (.slot 49)),
  xL 51 (.bin .sub 3 .num (.slot 40) (.slot 50)),
  xL 52 (.nilCheck (.slot 37)),
  xL 53 (.faddr 2 (.slot 52)),
  ⟨⟨.store 1 (.slot 53) (.slot 51), none, none⟩, []⟩]
def r33_13 : List XLine := [xM 54 0,
  xL 55 (.nilCheck (.slot 54)),
  xL 56 (.faddr 0 (.slot 55)),
  xL 57 (.load false 1 (.slot 56)),
  xM 58 8,
  ⟨⟨.delete .i64 (.slot 57) (.slot 58), none, none⟩, []⟩]
def r33_14 : List XLine := [xL 4 (.mv (.const (.int .i64 (.ofNat 0))))]
def xf33 : XFunc := ⟨(.seq (.region false r33_0)
  (.seq (.region false r33_1)
  (.seq (.seq (.region false r33_2)
  (.block 0 (.loop (.seq (.region false r33_3)
  (.seq (.cond (.slot 13)
  .skip
  (.exit 0))
  (.seq (.block 1 (.seq (.region false r33_4)
  (.seq (.seq (.region false r33_5)
  (.cond (.slot 27)
  (.seq (.region false r33_6)
  .ret)
  .skip))
  (.region false r33_7))))
  (.region false r33_8)))))))
  (.seq (.seq (.region false r33_9)
  (.block 2 (.loop (.seq (.region false r33_10)
  (.seq (.cond (.slot 34)
  .skip
  (.exit 2))
  (.block 3 (.seq (.region false r33_11)
  (.seq (.region true r33_12)
  (.region false r33_13)))))))))
  (.seq (.region false r33_14)
  .ret))))),
  [.tmp 4]⟩
theorem xf33_ok : compFunc Try.prog Try.f33 = some xf33 := by kernel_rfl
def r34_0 : List XLine := [xL 3 (.box (.slot 0)),
  xL 6 (.mv (.const (.int .i64 (.ofNat 0))))]
def r34_1 : List XLine := [xM 14 1,
  xL 15 (.call (.const (.func 48 [] [])) [(.slot 14)]),
  xM 13 15,
  xL 16 (.extract (.slot 13) 0),
  xL 17 (.extract (.slot 13) 1),
  xM 7 16,
  xM 8 17]
def r34_2 : List XLine := [xM 18 8]
def r34_3 : List XLine := [xL 6 (.mv (.const (.int .i64 (.ofNat 0))))]
def r34_4 : List XLine := [xL 19 (.mkfunc 50 [] [(.slot 3)]),
  ⟨⟨.defer (.slot 19) [], none, none⟩, []⟩]
def r34_5 : List XLine := [xM 20 7,
  xL 21 (.len .slice (.slot 20)),
  xL 22 (.mv (.const (.int .i64 (.ofNat 0))))]
def r34_6 : List XLine := [xL 23 (.bin .lss 3 .num (.slot 22) (.slot 21))]
def r34_7 : List XLine := [xL 24 (.iaddr 1 (.slot 20) (.slot 22)),
  xL 25 (.load false 1 (.slot 24)),
  xM 10 25]
def r34_8 : List XLine := [xL 26 (.load false 1 (.slot 3)),
  xM 27 10,
  xL 28 (.un .neg (.slot 27)),
  xL 29 (.call (.const (.func 52 [] [])) [(.slot 26), (.slot 28)])]
def r34_9 : List XLine := [xL 30 (.bin .add 3 .num (.slot 22) (.const (.int .i64 (.ofNat 1)))),
  xM 22 30]
def r34_10 : List XLine := [xM 32 2,
  xL 33 (.call (.const (.func 53 [] [])) [(.slot 32)]),
  xM 31 33,
  xL 34 (.extract (.slot 31) 0),
  xL 35 (.extract (.slot 31) 1),
  xM 11 34,
  xM 12 35]
def r34_11 : List XLine := [xL 36 (.load false 1 (.slot 3)),
  xM 37 11,
  xL 38 (.call (.const (.func 54 [] [])) [(.slot 36), (.slot 37)])]
def r34_12 : List XLine := [xL 40 (.bin .eql 91 .num (.slot 38) (.const (.int .i64 (.ofNat 1)))),
  xM 39 40]
def r34_13 : List XLine := [xL 6 (.mv (.const (.int .i64 (.ofNat 0))))]
def r34_14 : List XLine := [xL 42 (.bin .eql 91 .num (.slot 38) (.const (.int .i64 (.ofNat 2)))),
  xM 41 42]
def r34_15 : List XLine := [xL 6 (.mv (.const (.int .i64 (.ofNat 60))))]
def r34_16 : List XLine := [xM 43 1,
  xL 44 (.len .slice (.slot 43)),
  xL 45 (.bin .eql 3 .num (.slot 44) (.const (.int .i64 (.ofNat 0))))]
def r34_17 : List XLine := [xL 6 (.mv (.const (.int .i64 (.ofNat 61))))]
def r34_18 : List XLine := [xL 46 (.load false 1 (.slot 3)),
  xM 47 1,
  xL 48 (.iaddr 1 (.slot 47) (.const (.int .i64 (.ofNat 0)))),
  xL 49 (.load false 1 (.slot 48)),
  xM 50 12,
  xL 51 (.call (.const (.func 55 [] [])) [(.slot 46), (.slot 49), (.slot 50)]),
  xM 6 51]
def xf34 : XFunc := ⟨(.seq (.region false r34_0)
  (.seq (.region false r34_1)
  (.seq (.seq (.region false r34_2)
  (.cond (.slot 18)
  (.seq (.region false r34_3)
  .ret)
  .skip))
  (.seq (.region false r34_4)
  (.seq (.seq (.region false r34_5)
  (.block 0 (.loop (.seq (.region false r34_6)
  (.seq (.cond (.slot 23)
  .skip
  (.exit 0))
  (.seq (.block 1 (.seq (.region false r34_7)
  (.region false r34_8)))
  (.region false r34_9)))))))
  (.seq (.region false r34_10)
  (.seq (.seq (.region false r34_11)
  (.block 2 (.seq (.region false r34_12)
  (.cond (.slot 39)
  (.seq (.region false r34_13)
  .ret)
  (.seq (.region false r34_14)
  (.cond (.slot 41)
  (.seq (.region false r34_15)
  .ret)
  .skip))))))
  (.seq (.seq (.region false r34_16)
  (.cond (.slot 45)
  (.seq (.region false r34_17)
  .ret)
  .skip))
  (.seq (.region true r34_18)
  .ret))))))))),
  [.tmp 6]⟩
theorem xf34_ok : compFunc Try.prog Try.f34 = some xf34 := by kernel_rfl
end Go.Proofs.Ytmkbnbpblhoekaa

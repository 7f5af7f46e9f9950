/- The functions of the program in X's code, printed by a program of ours. -/
import Derived.Test.YtmkbnbpblhoekaaProg
import Derived.Test.YtmkbnbpblhoekaaW0
import Derived.KernelRfl
namespace Go.Proofs.Ytmkbnbpblhoekaa
open Go.Xr
def r81_0 : List XLine := [xL 10 (.mv (.const (.bool true)))]
def r81_1 : List XLine := [xL 11 (.mv (.const (.bool true)))]
def r81_2 : List XLine := [xM 21 2,
  xM 22 1,
  xL 23 (.bin .sub 3 .num (.slot 21) (.slot 22)),
  xM 12 23]
def r81_3 : List XLine := [xM 24 12,
  xL 25 (.bin .leq 3 .num (.slot 24) (.const (.int .i64 (.ofNat 12))))]
def r81_4 : List XLine := [xM 26 0,
  xM 27 1,
  xM 28 2,
  xM 29 4,
  xL 30 (.call (.const (.func 99 [] [])) [(.slot 26), (.slot 27), (.slot 28), (.slot 29)])]
def r81_5 : List XLine := [xM 31 3,
  xL 32 (.bin .eql 3 .num (.slot 31) (.const (.int .i64 (.ofNat 0))))]
def r81_6 : List XLine := [xM 33 0,
  xM 34 1,
  xM 35 2,
  xM 36 4,
  xL 37 (.call (.const (.func 100 [] [])) [(.slot 33), (.slot 34), (.slot 35), (.slot 36)])]
def r81_7 : List XLine := [xM 38 10,
  xL 39 (.un .not (.slot 38))]
def r81_8 : List XLine := [xM 40 0,
  xM 41 1,
  xM 42 2,
  xM 43 4,
  xL 44 (.call (.const (.func 101 [] [])) [(.slot 40), (.slot 41), (.slot 42), (.slot 43)])]
def r81_9 : List XLine := [xM 45 3,
  xL 46 (.bin .sub 3 .num (.slot 45) (.const (.int .i64 (.ofNat 1)))),
  xM 3 46]
def r81_10 : List XLine := [xM 48 0,
  xM 49 1,
  xM 50 2,
  xM 51 4,
  xL 52 (.call (.const (.func 102 [] [])) [(.slot 48), (.slot 49), (.slot 50), (.slot 51)]),
  xM 47 52,
  xL 53 (.extract (.slot 47) 0),
  xL 54 (.extract (.slot 47) 1),
  xM 13 53,
  xM 14 54]
def r81_11 : List XLine := [xM 55 14,
  xL 56 (.bin .eql 126 .num (.slot 55) (.const (.int .i64 (.ofNat 2))))]
def r81_12 : List XLine := [xM 57 0,
  xM 58 1,
  xM 59 2,
  xM 60 4,
  xL 61 (.call (.const (.func 103 [] [])) [(.slot 57), (.slot 58), (.slot 59), (.slot 60)])]
def r81_13 : List XLine := [xM 62 2,
  xL 63 (.bin .sub 3 .num (.slot 62) (.const (.int .i64 (.ofNat 1)))),
  xM 64 13,
  xM 65 1,
  xL 66 (.bin .sub 3 .num (.slot 64) (.slot 65)),
  xL 67 (.bin .sub 3 .num (.slot 63) (.slot 66)),
  xM 13 67]
def r81_14 : List XLine := [xL 14 (.mv (.const (.int .i64 (.ofNat 1))))]
def r81_15 : List XLine := [xM 68 10,
  xM 69 68,
  ⟨⟨.mv (.slot 11), some 70, some (69, true)⟩, []⟩,
  xL 71 (.pick (.slot 69) (.slot 70) (.const (.bool false))),
  xM 72 71,
  ⟨⟨.mv (.slot 14), some 73, some (72, true)⟩, []⟩,
  ⟨⟨.bin .eql 126 .num (.slot 73) (.const (.int .i64 (.ofNat 1))), some 74, some (72, true)⟩, []⟩,
  xL 75 (.pick (.slot 72) (.slot 74) (.const (.bool false)))]
def r81_16 : List XLine := [xM 76 0,
  xM 77 1,
  xM 78 2,
  xM 79 4,
  xL 80 (.call (.const (.func 104 [] [])) [(.slot 76), (.slot 77), (.slot 78), (.slot 79)])]
def r81_17 : List XLine := [xM 81 1,
  xL 82 (.bin .gtr 3 .num (.slot 81) (.const (.int .i64 (.ofNat 0)))),
  xM 83 82,
  ⟨⟨.mv (.slot 4), some 84, some (83, true)⟩, []⟩,
  ⟨⟨.mv (.slot 0), some 85, some (83, true)⟩, []⟩,
  ⟨⟨.mv (.slot 1), some 86, some (83, true)⟩, []⟩,
  ⟨⟨.bin .sub 3 .num (.slot 86) (.const (.int .i64 (.ofNat 1))), some 87, some (83, true)⟩, []⟩,
  ⟨⟨.iaddr 1 (.slot 85) (.slot 87), some 88, some (83, true)⟩, []⟩,
  ⟨⟨.load false 1 (.slot 88), some 89, some (83, true)⟩, []⟩,
  ⟨⟨.mv (.slot 0), some 90, some (83, true)⟩, []⟩,
  ⟨⟨.mv (.slot 13), some 91, some (83, true)⟩, []⟩,
  ⟨⟨.iaddr 1 (.slot 90) (.slot 91), some 92, some (83, true)⟩, []⟩,
  ⟨⟨.load false 1 (.slot 92), some 93, some (83, true)⟩, []⟩,
  ⟨⟨.call (.slot 84) [(.slot 89), (.slot 93)], some 94, some (83, true)⟩, []⟩,
  ⟨⟨.bin .lss 3 .num (.slot 94) (.const (.int .i64 (.ofNat 0))), some 95, some (83, true)⟩, []⟩,
  ⟨⟨.un .not (.slot 95), some 96, some (83, true)⟩, []⟩,
  xL 97 (.pick (.slot 83) (.slot 96) (.const (.bool false)))]
def r81_18 : List XLine := [xM 98 0,
  xM 99 1,
  xM 100 2,
  xM 101 13,
  xM 102 4,
  xL 103 (.call (.const (.func 105 [] [])) [(.slot 98), (.slot 99), (.slot 100), (.slot 101), (.slot 102)]),
  xM 15 103]
def r81_19 : List XLine := [xM 104 15,
  xM 1 104]
def r81_20 : List XLine := [xM 106 0,
  xM 107 1,
  xM 108 2,
  xM 109 13,
  xM 110 4,
  xL 111 (.call (.const (.func 106 [] [])) [(.slot 106), (.slot 107), (.slot 108), (.slot 109), (.slot 110)]),
  xM 105 111,
  xL 112 (.extract (.slot 105) 0),
  xL 113 (.extract (.slot 105) 1),
  xM 16 112,
  xM 17 113]
def r81_21 : List XLine := [xM 114 17,
  xM 11 114]
def r81_22 : List XLine := [xM 115 16,
  xM 116 1,
  xL 117 (.bin .sub 3 .num (.slot 115) (.slot 116)),
  xM 118 2,
  xM 119 16,
  xL 120 (.bin .sub 3 .num (.slot 118) (.slot 119)),
  xM 18 117,
  xM 19 120]
def r81_23 : List XLine := [xM 121 12,
  xL 122 (.bin .quo 3 .num (.slot 121) (.const (.int .i64 (.ofNat 8)))),
  xM 20 122]
def r81_24 : List XLine := [xM 123 18,
  xM 124 19,
  xL 125 (.bin .lss 3 .num (.slot 123) (.slot 124))]
def r81_25 : List XLine := [xM 126 18,
  xM 127 20,
  xL 128 (.bin .geq 3 .num (.slot 126) (.slot 127)),
  xM 10 128]
def r81_26 : List XLine := [xM 129 0,
  xM 130 1,
  xM 131 16,
  xM 132 3,
  xM 133 4,
  xL 134 (.call (.const (.func 81 [] [])) [(.slot 129), (.slot 130), (.slot 131), (.slot 132), (.slot 133)])]
def r81_27 : List XLine := [xM 135 16,
  xL 136 (.bin .add 3 .num (.slot 135) (.const (.int .i64 (.ofNat 1)))),
  xM 1 136]
def r81_28 : List XLine := [xM 137 19,
  xM 138 20,
  xL 139 (.bin .geq 3 .num (.slot 137) (.slot 138)),
  xM 10 139]
def r81_29 : List XLine := [xM 140 0,
  xM 141 16,
  xL 142 (.bin .add 3 .num (.slot 141) (.const (.int .i64 (.ofNat 1)))),
  xM 143 2,
  xM 144 3,
  xM 145 4,
  xL 146 (.call (.const (.func 81 [] [])) [(.slot 140), (.slot 142), (.slot 143), (.slot 144), (.slot 145)])]
def r81_30 : List XLine := [xM 147 16,
  xM 2 147]
def xf81 : XFunc := ⟨(.seq (.region false r81_0)
  (.seq (.region false r81_1)
  (.block 0 (.loop (.block 1 (.seq (.region false r81_2)
  (.seq (.seq (.region false r81_3)
  (.cond (.slot 25)
  (.seq (.region false r81_4)
  .ret)
  .skip))
  (.seq (.seq (.region false r81_5)
  (.cond (.slot 32)
  (.seq (.region false r81_6)
  .ret)
  .skip))
  (.seq (.seq (.region false r81_7)
  (.cond (.slot 39)
  (.seq (.region false r81_8)
  (.region false r81_9))
  .skip))
  (.seq (.region false r81_10)
  (.seq (.seq (.region false r81_11)
  (.cond (.slot 56)
  (.seq (.region false r81_12)
  (.seq (.region false r81_13)
  (.region false r81_14)))
  .skip))
  (.seq (.seq (.region false r81_15)
  (.cond (.slot 75)
  (.seq (.region false r81_16)
  (.cond (.slot 80)
  .ret
  .skip))
  .skip))
  (.seq (.seq (.region true r81_17)
  (.cond (.slot 97)
  (.seq (.region false r81_18)
  (.seq (.region false r81_19)
  (.exit 1)))
  .skip))
  (.seq (.region false r81_20)
  (.seq (.region false r81_21)
  (.seq (.region false r81_22)
  (.seq (.region false r81_23)
  (.seq (.region false r81_24)
  (.cond (.slot 125)
  (.seq (.region false r81_25)
  (.seq (.region false r81_26)
  (.region false r81_27)))
  (.seq (.region false r81_28)
  (.seq (.region false r81_29)
  (.region false r81_30)))))))))))))))))))))),
  []⟩
theorem xf81_ok : compFunc Try.prog Try.f81 = some xf81 := by kernel_rfl
def r82_0 : List XLine := [xL 2 (.mv (.const (.int .i64 (.ofNat 0))))]
def r82_1 : List XLine := [xL 3 (.mv (.const (.int .i64 (.ofNat 0))))]
def r82_2 : List XLine := [xM 6 0,
  xL 7 (.len .slice (.slot 6)),
  xL 8 (.mv (.const (.int .i64 (.ofNat 0))))]
def r82_3 : List XLine := [xL 9 (.bin .lss 3 .num (.slot 8) (.slot 7))]
def r82_4 : List XLine := [xL 10 (.iaddr 1 (.slot 6) (.slot 8)),
  xL 11 (.load false 1 (.slot 10)),
  xM 5 11]
def r82_5 : List XLine := [xM 12 5,
  xM 13 3,
  xL 14 (.bin .neq 3 .num (.slot 12) (.slot 13))]
def r82_6 : List XLine := [xM 15 5,
  xM 2 15]
def r82_7 : List XLine := [xL 16 (.bin .add 3 .num (.slot 8) (.const (.int .i64 (.ofNat 1)))),
  xM 8 16]
def r82_8 : List XLine := [xM 17 3,
  xM 2 17]
def xf82 : XFunc := ⟨(.seq (.region false r82_0)
  (.seq (.region false r82_1)
  (.seq (.seq (.region false r82_2)
  (.block 0 (.loop (.seq (.region false r82_3)
  (.seq (.cond (.slot 9)
  .skip
  (.exit 0))
  (.seq (.block 1 (.seq (.region false r82_4)
  (.seq (.region false r82_5)
  (.cond (.slot 14)
  (.seq (.region false r82_6)
  .ret)
  .skip))))
  (.region false r82_7)))))))
  (.seq (.region false r82_8)
  .ret)))),
  [.tmp 2]⟩
theorem xf82_ok : compFunc Try.prog Try.f82 = some xf82 := by kernel_rfl
def r83_0 : List XLine := [xL 4 (.mv (.const (.int .i64 (.ofNat 0))))]
def r83_1 : List XLine := [xM 7 0,
  xL 8 (.call (.const (.func 107 [] [])) [(.slot 7)]),
  xM 5 8]
def r83_2 : List XLine := [xM 9 1,
  xL 10 (.call (.const (.func 107 [] [])) [(.slot 9)]),
  xM 6 10]
def r83_3 : List XLine := [xM 11 5]
def r83_4 : List XLine := [xM 12 6]
def r83_5 : List XLine := [xL 4 (.mv (.const (.int .i64 (.ofNat 0))))]
def r83_6 : List XLine := [xL 4 (.mv (.const (.int .i64 (.negSucc 0))))]
def r83_7 : List XLine := [xM 13 6]
def r83_8 : List XLine := [xL 4 (.mv (.const (.int .i64 (.ofNat 1))))]
def r83_9 : List XLine := [xM 14 0,
  xM 15 1,
  xL 16 (.bin .lss 3 .num (.slot 14) (.slot 15))]
def r83_10 : List XLine := [xL 4 (.mv (.const (.int .i64 (.negSucc 0))))]
def r83_11 : List XLine := [xM 17 0,
  xM 18 1,
  xL 19 (.bin .gtr 3 .num (.slot 17) (.slot 18))]
def r83_12 : List XLine := [xL 4 (.mv (.const (.int .i64 (.ofNat 1))))]
def r83_13 : List XLine := [xL 4 (.mv (.const (.int .i64 (.ofNat 0))))]
def xf83 : XFunc := ⟨(.seq (.region false r83_0)
  (.seq (.region false r83_1)
  (.seq (.region false r83_2)
  (.seq (.seq (.region false r83_3)
  (.cond (.slot 11)
  (.seq (.seq (.region false r83_4)
  (.cond (.slot 12)
  (.seq (.region false r83_5)
  .ret)
  .skip))
  (.seq (.region false r83_6)
  .ret))
  .skip))
  (.seq (.seq (.region false r83_7)
  (.cond (.slot 13)
  (.seq (.region false r83_8)
  .ret)
  .skip))
  (.seq (.seq (.region false r83_9)
  (.cond (.slot 16)
  (.seq (.region false r83_10)
  .ret)
  .skip))
  (.seq (.seq (.region false r83_11)
  (.cond (.slot 19)
  (.seq (.region false r83_12)
  .ret)
  .skip))
  (.seq (.region false r83_13)
  .ret)))))))),
  [.tmp 4]⟩
theorem xf83_ok : compFunc Try.prog Try.f83 = some xf83 := by kernel_rfl
def r84_0 : List XLine := [xL 4 (.mv (.const (.int .i64 (.ofNat 0))))]
def r84_1 : List XLine := [xM 7 0,
  xL 8 (.call (.const (.func 108 [] [])) [(.slot 7)]),
  xM 5 8]
def r84_2 : List XLine := [xM 9 1,
  xL 10 (.call (.const (.func 108 [] [])) [(.slot 9)]),
  xM 6 10]
def r84_3 : List XLine := [xM 11 5]
def r84_4 : List XLine := [xM 12 6]
def r84_5 : List XLine := [xL 4 (.mv (.const (.int .i64 (.ofNat 0))))]
def r84_6 : List XLine := [xL 4 (.mv (.const (.int .i64 (.negSucc 0))))]
def r84_7 : List XLine := [xM 13 6]
def r84_8 : List XLine := [xL 4 (.mv (.const (.int .i64 (.ofNat 1))))]
def r84_9 : List XLine := [xM 14 0,
  xM 15 1,
  xL 16 (.bin .lss 57 .num (.slot 14) (.slot 15))]
def r84_10 : List XLine := [xL 4 (.mv (.const (.int .i64 (.negSucc 0))))]
def r84_11 : List XLine := [xM 17 0,
  xM 18 1,
  xL 19 (.bin .gtr 57 .num (.slot 17) (.slot 18))]
def r84_12 : List XLine := [xL 4 (.mv (.const (.int .i64 (.ofNat 1))))]
def r84_13 : List XLine := [xL 4 (.mv (.const (.int .i64 (.ofNat 0))))]
def xf84 : XFunc := ⟨(.seq (.region false r84_0)
  (.seq (.region false r84_1)
  (.seq (.region false r84_2)
  (.seq (.seq (.region false r84_3)
  (.cond (.slot 11)
  (.seq (.seq (.region false r84_4)
  (.cond (.slot 12)
  (.seq (.region false r84_5)
  .ret)
  .skip))
  (.seq (.region false r84_6)
  .ret))
  .skip))
  (.seq (.seq (.region false r84_7)
  (.cond (.slot 13)
  (.seq (.region false r84_8)
  .ret)
  .skip))
  (.seq (.seq (.region false r84_9)
  (.cond (.slot 16)
  (.seq (.region false r84_10)
  .ret)
  .skip))
  (.seq (.seq (.region false r84_11)
  (.cond (.slot 19)
  (.seq (.region false r84_12)
  .ret)
  .skip))
  (.seq (.region false r84_13)
  .ret)))))))),
  [.tmp 4]⟩
theorem xf84_ok : compFunc Try.prog Try.f84 = some xf84 := by kernel_rfl
def r85_0 : List XLine := [xL 4 (.mv (.const (.int .i64 (.ofNat 0))))]
def r85_1 : List XLine := [xM 6 0,
  xL 7 (.len .slice (.slot 6)),
  xL 8 (.mv (.const (.int .i64 (.ofNat 0))))]
def r85_2 : List XLine := [xL 9 (.bin .lss 3 .num (.slot 8) (.slot 7))]
def r85_3 : List XLine := [xM 10 8,
  xM 5 10]
def r85_4 : List XLine := [xM 11 1,
  xM 12 0,
  xM 13 5,
  xL 14 (.iaddr 1 (.slot 12) (.slot 13)),
  xL 15 (.load false 1 (.slot 14)),
  xL 16 (.bin .eql 57 .num (.slot 11) (.slot 15))]
def r85_5 : List XLine := [xM 17 5,
  xM 4 17]
def r85_6 : List XLine := [xL 18 (.bin .add 3 .num (.slot 8) (.const (.int .i64 (.ofNat 1)))),
  xM 8 18]
def r85_7 : List XLine := [xL 4 (.mv (.const (.int .i64 (.negSucc 0))))]
def xf85 : XFunc := ⟨(.seq (.region false r85_0)
  (.seq (.seq (.region false r85_1)
  (.block 0 (.loop (.seq (.region false r85_2)
  (.seq (.cond (.slot 9)
  .skip
  (.exit 0))
  (.seq (.block 1 (.seq (.region false r85_3)
  (.seq (.region false r85_4)
  (.cond (.slot 16)
  (.seq (.region false r85_5)
  .ret)
  .skip))))
  (.region false r85_6)))))))
  (.seq (.region false r85_7)
  .ret))),
  [.tmp 4]⟩
theorem xf85_ok : compFunc Try.prog Try.f85 = some xf85 := by kernel_rfl
def r86_0 : List XLine := [xL 2 (.load false 1 (.slot 0)),
  xL 3 (.load false 1 (.slot 1)),
  xL 4 (.call (.const (.func 51 [] [])) [(.slot 2), (.slot 3)])]
def xf86 : XFunc := ⟨(.region false r86_0),
  []⟩
theorem xf86_ok : compFunc Try.prog Try.f86 = some xf86 := by kernel_rfl
def r98_0 : List XLine := [xL 4 (.mv (.const (.bool false)))]
def r98_1 : List XLine := [xM 5 0,
  xL 6 (.call (.const (.func 36 [] [])) [(.slot 5)]),
  xM 7 1,
  xL 8 (.call (.const (.func 36 [] [])) [(.slot 7)]),
  xL 9 (.bin .lss 3 .num (.slot 6) (.slot 8)),
  xM 10 9,
  ⟨⟨.mv (.slot 0), some 11, some (10, false)⟩, []⟩,
  ⟨⟨.call (.const (.func 36 [] [])) [(.slot 11)], some 12, some (10, false)⟩, []⟩,
  ⟨⟨.mv (.slot 1), some 13, some (10, false)⟩, []⟩,
  ⟨⟨.call (.const (.func 36 [] [])) [(.slot 13)], some 14, some (10, false)⟩, []⟩,
  ⟨⟨.bin .eql 3 .num (.slot 12) (.slot 14), some 15, some (10, false)⟩, []⟩,
  ⟨⟨.mv (.slot 15), some 16, some (10, false)⟩, []⟩,
  ⟨⟨.mv (.slot 0), some 17, some (16, true)⟩, []⟩,
  ⟨⟨.mv (.slot 1), some 18, some (16, true)⟩, []⟩,
  ⟨⟨.bin .lss 57 .num (.slot 17) (.slot 18), some 19, some (16, true)⟩, []⟩,
  ⟨⟨.pick (.slot 16) (.slot 19) (.const (.bool false)), some 20, some (10, false)⟩, []⟩,
  xL 21 (.pick (.slot 10) (.const (.bool true)) (.slot 20)),
  xM 4 21]
def xf98 : XFunc := ⟨(.seq (.region false r98_0)
  (.seq (.region false r98_1)
  .ret)),
  [.tmp 4]⟩
theorem xf98_ok : compFunc Try.prog Try.f98 = some xf98 := by kernel_rfl
def r99_0 : List XLine := [xM 10 1,
  xL 11 (.bin .add 3 .num (.slot 10) (.const (.int .i64 (.ofNat 1)))),
  xM 8 11]
def r99_1 : List XLine := [xM 12 8,
  xM 13 2,
  xL 14 (.bin .lss 3 .num (.slot 12) (.slot 13))]
def r99_2 : List XLine := [xM 17 8,
  xM 9 17]
def r99_3 : List XLine := [xM 18 9,
  xM 19 1,
  xL 20 (.bin .gtr 3 .num (.slot 18) (.slot 19)),
  xM 21 20,
  ⟨⟨.mv (.slot 3), some 22, some (21, true)⟩, []⟩,
  ⟨⟨.mv (.slot 0), some 23, some (21, true)⟩, []⟩,
  ⟨⟨.mv (.slot 9), some 24, some (21, true)⟩, []⟩,
  ⟨⟨.iaddr 1 (.slot 23) (.slot 24), some 25, some (21, true)⟩, []⟩,
  ⟨⟨.load false 1 (.slot 25), some 26, some (21, true)⟩, []⟩,
  ⟨⟨.mv (.slot 0), some 27, some (21, true)⟩, []⟩,
  ⟨⟨.mv (.slot 9), some 28, some (21, true)⟩, []⟩,
  ⟨⟨.bin .sub 3 .num (.slot 28) (.const (.int .i64 (.ofNat 1))), some 29, some (21, true)⟩, []⟩,
  ⟨⟨.iaddr 1 (.slot 27) (.slot 29), some 30, some (21, true)⟩, []⟩,
  ⟨⟨.load false 1 (.slot 30), some 31, some (21, true)⟩, []⟩,
  ⟨⟨.call (.slot 22) [(.slot 26), (.slot 31)], some 32, some (21, true)⟩, []⟩,
  ⟨⟨.bin .lss 3 .num (.slot 32) (.const (.int .i64 (.ofNat 0))), some 33, some (21, true)⟩, []⟩,
  xL 34 (.pick (.slot 21) (.slot 33) (.const (.bool false)))]
def r99_4 : List XLine := [xM 37 0,
  xM 38 9,
  xM 39 0,
  xM 40 9,
  xL 41 (.bin .sub 3 .num (.slot 40) (.const (.int .i64 (.ofNat 1)))),
  xM 42 0,
  xM 43 9,
  xL 44 (.bin .sub 3 .num (.slot 43) (.const (.int .i64 (.ofNat 1)))),
  xL 45 (.iaddr 1 (.slot 42) (.slot 44)),
  xL 46 (.load false 1 (.slot 45)),
  xM 47 0,
  xM 48 9,
  xL 49 (.iaddr 1 (.slot 47) (.slot 48)),
  xL 50 (.load false 1 (.slot 49)),
  xL 51 (.iaddr 1 (.slot 37) (.slot 38)),
  ⟨⟨.store 1 (.slot 51) (.slot 46), none, none⟩, []⟩,
  xL 52 (.iaddr 1 (.slot 39) (.slot 41)),
  ⟨⟨.store 1 (.slot 52) (.slot 50), none, none⟩, []⟩]
def r99_5 : List XLine := [xM 35 9,
  xL 36 (.bin .sub 3 .num (.slot 35) (.const (.int .i64 (.ofNat 1)))),
  xM 9 36]
def r99_6 : List XLine := [xM 15 8,
  xL 16 (.bin .add 3 .num (.slot 15) (.const (.int .i64 (.ofNat 1)))),
  xM 8 16]
def xf99 : XFunc := ⟨(.seq (.region false r99_0)
  (.block 0 (.loop (.seq (.seq (.region false r99_1)
  (.cond (.slot 14)
  .skip
  (.exit 0)))
  (.seq (.block 1 (.seq (.region false r99_2)
  (.block 2 (.loop (.seq (.seq (.region true r99_3)
  (.cond (.slot 34)
  .skip
  (.exit 2)))
  (.seq (.block 3 (.region true r99_4))
  (.region false r99_5)))))))
  (.region false r99_6)))))),
  []⟩
theorem xf99_ok : compFunc Try.prog Try.f99 = some xf99 := by kernel_rfl
def r107_0 : List XLine := [xL 2 (.mv (.const (.bool false)))]
def r107_1 : List XLine := [xM 3 0,
  xM 4 0,
  xL 5 (.bin .neq 3 .num (.slot 3) (.slot 4)),
  xM 2 5]
def xf107 : XFunc := ⟨(.seq (.region false r107_0)
  (.seq (.region false r107_1)
  .ret)),
  [.tmp 2]⟩
theorem xf107_ok : compFunc Try.prog Try.f107 = some xf107 := by kernel_rfl
def r108_0 : List XLine := [xL 2 (.mv (.const (.bool false)))]
def r108_1 : List XLine := [xM 3 0,
  xM 4 0,
  xL 5 (.bin .neq 57 .num (.slot 3) (.slot 4)),
  xM 2 5]
def xf108 : XFunc := ⟨(.seq (.region false r108_0)
  (.seq (.region false r108_1)
  .ret)),
  [.tmp 2]⟩
theorem xf108_ok : compFunc Try.prog Try.f108 = some xf108 := by kernel_rfl
end Go.Proofs.Ytmkbnbpblhoekaa

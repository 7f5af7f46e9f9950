/- Part of a proof for X's executor: what the program's functions answer. -/
import Derived.Test.YtmkbnbpblhoekaaGreatProg
import Derived.Test.YtmkbnbpblhoekaaGreatW0
import Derived.KernelRfl
namespace Go.Proofs.YtmkbnbpblhoekaaGreat
open Go.Xr
def r62_0 := [xL 2 (.mv (.const .nils)),
 xL 3 (.mv (.const (.bool false)))]
def r62_1 := [xL 4 (.mv (.const .nils))]
def r62_2 := [xL 5 (.mv (.const (.bool false)))]
def r62_3 := [xL 6 (.mv (.const (.int .i64 (.ofNat 0))))]
def r62_4 := [xM 9 6,
 xM 10 0,
 xL 11 (.len .slice (.slot 10)),
 xL 12 (.bin .lss 3 .num (.slot 9) (.slot 11))]
def r62_5 := [xM 15 4,
 xM 16 0,
 xM 17 6,
 xL 18 (.iaddr 1 (.slot 16) (.slot 17)),
 xL 19 (.load false 1 (.slot 18)),
 xL 20 (.call (.const (.func 63 [] [])) [(.slot 15),(.slot 19)])]
def r62_6 := [xM 21 5,
 xM 22 21,
 ⟨⟨.mv (.slot 0),some 23,some (22,false)⟩,[]⟩,
 ⟨⟨.mv (.slot 6),some 24,some (22,false)⟩,[]⟩,
 ⟨⟨.iaddr 1 (.slot 23) (.slot 24),some 25,some (22,false)⟩,[]⟩,
 ⟨⟨.load false 1 (.slot 25),some 26,some (22,false)⟩,[]⟩,
 ⟨⟨.bin .gtr 40 .num (.slot 26) (.const (.int .i32 (.ofNat 0))),some 27,some (22,false)⟩,[]⟩,
 ⟨⟨.mv (.slot 27),some 28,some (22,false)⟩,[]⟩,
 ⟨⟨.mv (.slot 0),some 29,some (28,true)⟩,[]⟩,
 ⟨⟨.mv (.slot 0),some 30,some (28,true)⟩,[]⟩,
 ⟨⟨.mv (.slot 6),some 31,some (28,true)⟩,[]⟩,
 ⟨⟨.iaddr 1 (.slot 30) (.slot 31),some 32,some (28,true)⟩,[]⟩,
 ⟨⟨.load false 1 (.slot 32),some 33,some (28,true)⟩,[]⟩,
 ⟨⟨.un .neg (.slot 33),some 34,some (28,true)⟩,[]⟩,
 ⟨⟨.call (.const (.func 63 [] [])) [(.slot 29),(.slot 34)],some 35,some (28,true)⟩,[]⟩,
 ⟨⟨.pick (.slot 28) (.slot 35) (.const (.bool false)),some 36,some (22,false)⟩,[]⟩,
 xL 37 (.pick (.slot 22) (.const (.bool true)) (.slot 36)),
 xM 5 37]
def r62_7 := [xL 7 (.mv (.const (.int .i64 (.ofNat 0))))]
def r62_8 := [xM 38 7,
 xM 39 4,
 xL 40 (.len .slice (.slot 39)),
 xL 41 (.bin .lss 3 .num (.slot 38) (.slot 40)),
 xM 42 41,
 ⟨⟨.mv (.slot 4),some 43,some (42,true)⟩,[]⟩,
 ⟨⟨.mv (.slot 7),some 44,some (42,true)⟩,[]⟩,
 ⟨⟨.iaddr 1 (.slot 43) (.slot 44),some 45,some (42,true)⟩,[]⟩,
 ⟨⟨.load false 1 (.slot 45),some 46,some (42,true)⟩,[]⟩,
 ⟨⟨.mv (.slot 0),some 47,some (42,true)⟩,[]⟩,
 ⟨⟨.mv (.slot 6),some 48,some (42,true)⟩,[]⟩,
 ⟨⟨.iaddr 1 (.slot 47) (.slot 48),some 49,some (42,true)⟩,[]⟩,
 ⟨⟨.load false 1 (.slot 49),some 50,some (42,true)⟩,[]⟩,
 ⟨⟨.call (.const (.func 75 [] [])) [(.slot 46),(.slot 50)],some 51,some (42,true)⟩,[]⟩,
 xL 52 (.pick (.slot 42) (.slot 51) (.const (.bool false)))]
def r62_9 := [xM 53 7,
 xL 54 (.bin .add 3 .num (.slot 53) (.const (.int .i64 (.ofNat 1)))),
 xM 7 54]
def r62_10 := [xL 8 (.mv (.const .nils))]
def r62_11 := [xM 55 8,
 xM 56 4,
 xM 57 7,
 xL 58 (.slc 1 (.slot 56) none (some (.slot 57)) none),
 xL 59 (.append 1 4 (.slot 55) (.slot 58)),
 xM 8 59]
def r62_12 := [xM 60 8,
 xM 61 0,
 xM 62 6,
 xL 63 (.iaddr 1 (.slot 61) (.slot 62)),
 xL 64 (.load false 1 (.slot 63)),
 xL 65 (.bslice 1 [(.int .i32 (.ofNat 0))] [(0,1,(.slot 64))] 1),
 xL 66 (.append 1 4 (.slot 60) (.slot 65)),
 xM 8 66]
def r62_13 := [xM 67 8,
 xM 68 4,
 xM 69 7,
 xL 70 (.slc 1 (.slot 68) (some (.slot 69)) none none),
 xL 71 (.append 1 4 (.slot 67) (.slot 70)),
 xM 8 71]
def r62_14 := [xM 72 8,
 xM 4 72]
def r62_15 := [xM 13 6,
 xL 14 (.bin .add 3 .num (.slot 13) (.const (.int .i64 (.ofNat 1)))),
 xM 6 14]
def r62_16 := [xM 73 4,
 xM 74 5,
 xM 2 73,
 xM 3 74]
def xf62 : XFunc := ⟨(.seq (.region false r62_0)
 (.seq (.region false r62_1)
 (.seq (.region false r62_2)
 (.seq (.seq (.region false r62_3)
 (.block 0 (.loop (.seq (.seq (.region false r62_4)
 (.cond (.slot 12)
 .skip
 (.exit 0)))
 (.seq (.block 1 (.seq (.seq (.region false r62_5)
 (.cond (.slot 20)
 (.exit 1)
 .skip))
 (.seq (.region false r62_6)
 (.seq (.region false r62_7)
 (.seq (.block 2 (.loop (.seq (.seq (.region true r62_8)
 (.cond (.slot 52)
 .skip
 (.exit 2)))
 (.block 3 (.region false r62_9)))))
 (.seq (.region false r62_10)
 (.seq (.region false r62_11)
 (.seq (.region false r62_12)
 (.seq (.region false r62_13)
 (.region false r62_14))))))))))
 (.region false r62_15))))))
 (.seq (.region false r62_16)
 .ret))))),
 [.tmp 2,.tmp 3]⟩
theorem xf62_ok : cmF Tryz.prog Tryz.f62 = some xf62 := by kernel_rfl
def r63_0 := [xL 4 (.mv (.const (.bool false)))]
def r63_1 := [xL 5 (.mv (.const (.int .i64 (.ofNat 0))))]
def r63_2 := [xM 6 5,
 xM 7 0,
 xL 8 (.len .slice (.slot 7)),
 xL 9 (.bin .lss 3 .num (.slot 6) (.slot 8))]
def r63_3 := [xM 12 0,
 xM 13 5,
 xL 14 (.iaddr 1 (.slot 12) (.slot 13)),
 xL 15 (.load false 1 (.slot 14)),
 xM 16 1,
 xL 17 (.bin .eql 40 .num (.slot 15) (.slot 16))]
def r63_4 := [xL 4 (.mv (.const (.bool true)))]
def r63_5 := [xM 10 5,
 xL 11 (.bin .add 3 .num (.slot 10) (.const (.int .i64 (.ofNat 1)))),
 xM 5 11]
def r63_6 := [xL 4 (.mv (.const (.bool false)))]
def xf63 : XFunc := ⟨(.seq (.region false r63_0)
 (.seq (.seq (.region false r63_1)
 (.block 0 (.loop (.seq (.seq (.region false r63_2)
 (.cond (.slot 9)
 .skip
 (.exit 0)))
 (.seq (.block 1 (.seq (.region false r63_3)
 (.cond (.slot 17)
 (.seq (.region false r63_4)
 .ret)
 .skip)))
 (.region false r63_5))))))
 (.seq (.region false r63_6)
 .ret))),
 [.tmp 4]⟩
theorem xf63_ok : cmF Tryz.prog Tryz.f63 = some xf63 := by kernel_rfl
def r64_0 := [xL 10 (.mv (.const (.int .i64 (.ofNat 0))))]
def r64_1 := [xL 11 (.mv (.const .nils))]
def r64_2 := [xM 16 11,
 xM 17 3,
 xL 18 (.append 1 4 (.slot 16) (.slot 17)),
 xM 11 18]
def r64_3 := [xL 12 (.mv (.const (.int .i64 (.ofNat 0))))]
def r64_4 := [xM 19 12,
 xM 20 1,
 xL 21 (.len .slice (.slot 20)),
 xL 22 (.bin .lss 3 .num (.slot 19) (.slot 21))]
def r64_5 := [xM 25 1,
 xM 26 12,
 xL 27 (.iaddr 1 (.slot 25) (.slot 26)),
 xL 28 (.load false 1 (.slot 27)),
 xM 29 2,
 xL 30 (.un .neg (.slot 29)),
 xL 31 (.bin .eql 40 .num (.slot 28) (.slot 30))]
def r64_6 := [xM 32 3,
 xM 33 1,
 xM 34 12,
 xL 35 (.iaddr 1 (.slot 33) (.slot 34)),
 xL 36 (.load false 1 (.slot 35)),
 xL 37 (.call (.const (.func 63 [] [])) [(.slot 32),(.slot 36)]),
 xM 38 37,
 ⟨⟨.mv (.slot 1),some 39,some (38,false)⟩,[]⟩,
 ⟨⟨.mv (.slot 1),some 40,some (38,false)⟩,[]⟩,
 ⟨⟨.mv (.slot 12),some 41,some (38,false)⟩,[]⟩,
 ⟨⟨.iaddr 1 (.slot 40) (.slot 41),some 42,some (38,false)⟩,[]⟩,
 ⟨⟨.load false 1 (.slot 42),some 43,some (38,false)⟩,[]⟩,
 ⟨⟨.un .neg (.slot 43),some 44,some (38,false)⟩,[]⟩,
 ⟨⟨.call (.const (.func 63 [] [])) [(.slot 39),(.slot 44)],some 45,some (38,false)⟩,[]⟩,
 xL 46 (.pick (.slot 38) (.const (.bool true)) (.slot 45))]
def r64_7 := [xL 10 (.mv (.const (.int .i64 (.ofNat 0))))]
def r64_8 := [xM 47 11,
 xM 48 1,
 xM 49 12,
 xL 50 (.iaddr 1 (.slot 48) (.slot 49)),
 xL 51 (.load false 1 (.slot 50)),
 xL 52 (.un .neg (.slot 51)),
 xL 53 (.bslice 1 [(.int .i32 (.ofNat 0))] [(0,1,(.slot 52))] 1),
 xL 54 (.append 1 4 (.slot 47) (.slot 53)),
 xM 11 54]
def r64_9 := [xM 23 12,
 xL 24 (.bin .add 3 .num (.slot 23) (.const (.int .i64 (.ofNat 1)))),
 xM 12 24]
def r64_10 := [xM 56 0,
 xM 57 11,
 xM 58 4,
 xL 59 (.call (.const (.func 47 [] [])) [(.slot 56),(.slot 57),(.slot 58)]),
 xM 55 59,
 xL 60 (.extract (.slot 55) 0),
 xL 61 (.extract (.slot 55) 1),
 xL 62 (.extract (.slot 55) 2),
 xM 13 60,
 xM 14 61,
 xM 15 62]
def r64_11 := [xM 63 15]
def r64_12 := [xL 10 (.mv (.const (.int .i64 (.ofNat 60))))]
def r64_13 := [xM 64 14,
 xL 65 (.un .not (.slot 64))]
def r64_14 := [xL 10 (.mv (.const (.int .i64 (.ofNat 61))))]
def r64_15 := [xL 10 (.mv (.const (.int .i64 (.ofNat 0))))]
def xf64 : XFunc := ⟨(.seq (.region false r64_0)
 (.seq (.region false r64_1)
 (.seq (.region false r64_2)
 (.seq (.seq (.region false r64_3)
 (.block 0 (.loop (.seq (.seq (.region false r64_4)
 (.cond (.slot 22)
 .skip
 (.exit 0)))
 (.seq (.block 1 (.seq (.seq (.region false r64_5)
 (.cond (.slot 31)
 (.exit 1)
 .skip))
 (.seq (.seq (.region false r64_6)
 (.cond (.slot 46)
 (.seq (.region false r64_7)
 .ret)
 .skip))
 (.region false r64_8))))
 (.region false r64_9))))))
 (.seq (.region false r64_10)
 (.seq (.seq (.region false r64_11)
 (.cond (.slot 63)
 (.seq (.region false r64_12)
 .ret)
 .skip))
 (.seq (.seq (.region false r64_13)
 (.cond (.slot 65)
 (.seq (.region false r64_14)
 .ret)
 .skip))
 (.seq (.region false r64_15)
 .ret)))))))),
 [.tmp 10]⟩
theorem xf64_ok : cmF Tryz.prog Tryz.f64 = some xf64 := by kernel_rfl
def r68_0 := [xL 10 (.mv (.const (.bool true)))]
def r68_1 := [xL 11 (.mv (.const (.bool true)))]
def r68_2 := [xM 21 2,
 xM 22 1,
 xL 23 (.bin .sub 3 .num (.slot 21) (.slot 22)),
 xM 12 23]
def r68_3 := [xM 24 12,
 xL 25 (.bin .leq 3 .num (.slot 24) (.const (.int .i64 (.ofNat 12))))]
def r68_4 := [xM 26 0,
 xM 27 1,
 xM 28 2,
 xM 29 4,
 xL 30 (.call (.const (.func 78 [] [])) [(.slot 26),(.slot 27),(.slot 28),(.slot 29)])]
def r68_5 := [xM 31 3,
 xL 32 (.bin .eql 3 .num (.slot 31) (.const (.int .i64 (.ofNat 0))))]
def r68_6 := [xM 33 0,
 xM 34 1,
 xM 35 2,
 xM 36 4,
 xL 37 (.call (.const (.func 79 [] [])) [(.slot 33),(.slot 34),(.slot 35),(.slot 36)])]
def r68_7 := [xM 38 10,
 xL 39 (.un .not (.slot 38))]
def r68_8 := [xM 40 0,
 xM 41 1,
 xM 42 2,
 xM 43 4,
 xL 44 (.call (.const (.func 80 [] [])) [(.slot 40),(.slot 41),(.slot 42),(.slot 43)])]
def r68_9 := [xM 45 3,
 xL 46 (.bin .sub 3 .num (.slot 45) (.const (.int .i64 (.ofNat 1)))),
 xM 3 46]
def r68_10 := [xM 48 0,
 xM 49 1,
 xM 50 2,
 xM 51 4,
 xL 52 (.call (.const (.func 81 [] [])) [(.slot 48),(.slot 49),(.slot 50),(.slot 51)]),
 xM 47 52,
 xL 53 (.extract (.slot 47) 0),
 xL 54 (.extract (.slot 47) 1),
 xM 13 53,
 xM 14 54]
def r68_11 := [xM 55 14,
 xL 56 (.bin .eql 120 .num (.slot 55) (.const (.int .i64 (.ofNat 2))))]
def r68_12 := [xM 57 0,
 xM 58 1,
 xM 59 2,
 xM 60 4,
 xL 61 (.call (.const (.func 82 [] [])) [(.slot 57),(.slot 58),(.slot 59),(.slot 60)])]
def r68_13 := [xM 62 2,
 xL 63 (.bin .sub 3 .num (.slot 62) (.const (.int .i64 (.ofNat 1)))),
 xM 64 13,
 xM 65 1,
 xL 66 (.bin .sub 3 .num (.slot 64) (.slot 65)),
 xL 67 (.bin .sub 3 .num (.slot 63) (.slot 66)),
 xM 13 67]
def r68_14 := [xL 14 (.mv (.const (.int .i64 (.ofNat 1))))]
def r68_15 := [xM 68 10,
 xM 69 68,
 ⟨⟨.mv (.slot 11),some 70,some (69,true)⟩,[]⟩,
 xL 71 (.pick (.slot 69) (.slot 70) (.const (.bool false))),
 xM 72 71,
 ⟨⟨.mv (.slot 14),some 73,some (72,true)⟩,[]⟩,
 ⟨⟨.bin .eql 120 .num (.slot 73) (.const (.int .i64 (.ofNat 1))),some 74,some (72,true)⟩,[]⟩,
 xL 75 (.pick (.slot 72) (.slot 74) (.const (.bool false)))]
def r68_16 := [xM 76 0,
 xM 77 1,
 xM 78 2,
 xM 79 4,
 xL 80 (.call (.const (.func 83 [] [])) [(.slot 76),(.slot 77),(.slot 78),(.slot 79)])]
def r68_17 := [xM 81 1,
 xL 82 (.bin .gtr 3 .num (.slot 81) (.const (.int .i64 (.ofNat 0)))),
 xM 83 82,
 ⟨⟨.mv (.slot 4),some 84,some (83,true)⟩,[]⟩,
 ⟨⟨.mv (.slot 0),some 85,some (83,true)⟩,[]⟩,
 ⟨⟨.mv (.slot 1),some 86,some (83,true)⟩,[]⟩,
 ⟨⟨.bin .sub 3 .num (.slot 86) (.const (.int .i64 (.ofNat 1))),some 87,some (83,true)⟩,[]⟩,
 ⟨⟨.iaddr 1 (.slot 85) (.slot 87),some 88,some (83,true)⟩,[]⟩,
 ⟨⟨.load false 1 (.slot 88),some 89,some (83,true)⟩,[]⟩,
 ⟨⟨.mv (.slot 0),some 90,some (83,true)⟩,[]⟩,
 ⟨⟨.mv (.slot 13),some 91,some (83,true)⟩,[]⟩,
 ⟨⟨.iaddr 1 (.slot 90) (.slot 91),some 92,some (83,true)⟩,[]⟩,
 ⟨⟨.load false 1 (.slot 92),some 93,some (83,true)⟩,[]⟩,
 ⟨⟨.call (.slot 84) [(.slot 89),(.slot 93)],some 94,some (83,true)⟩,[]⟩,
 ⟨⟨.bin .lss 3 .num (.slot 94) (.const (.int .i64 (.ofNat 0))),some 95,some (83,true)⟩,[]⟩,
 ⟨⟨.un .not (.slot 95),some 96,some (83,true)⟩,[]⟩,
 xL 97 (.pick (.slot 83) (.slot 96) (.const (.bool false)))]
def r68_18 := [xM 98 0,
 xM 99 1,
 xM 100 2,
 xM 101 13,
 xM 102 4,
 xL 103 (.call (.const (.func 84 [] [])) [(.slot 98),(.slot 99),(.slot 100),(.slot 101),(.slot 102)]),
 xM 15 103]
def r68_19 := [xM 104 15,
 xM 1 104]
def r68_20 := [xM 106 0,
 xM 107 1,
 xM 108 2,
 xM 109 13,
 xM 110 4,
 xL 111 (.call (.const (.func 85 [] [])) [(.slot 106),(.slot 107),(.slot 108),(.slot 109),(.slot 110)]),
 xM 105 111,
 xL 112 (.extract (.slot 105) 0),
 xL 113 (.extract (.slot 105) 1),
 xM 16 112,
 xM 17 113]
def r68_21 := [xM 114 17,
 xM 11 114]
def r68_22 := [xM 115 16,
 xM 116 1,
 xL 117 (.bin .sub 3 .num (.slot 115) (.slot 116)),
 xM 118 2,
 xM 119 16,
 xL 120 (.bin .sub 3 .num (.slot 118) (.slot 119)),
 xM 18 117,
 xM 19 120]
def r68_23 := [xM 121 12,
 xL 122 (.bin .quo 3 .num (.slot 121) (.const (.int .i64 (.ofNat 8)))),
 xM 20 122]
def r68_24 := [xM 123 18,
 xM 124 19,
 xL 125 (.bin .lss 3 .num (.slot 123) (.slot 124))]
def r68_25 := [xM 126 18,
 xM 127 20,
 xL 128 (.bin .geq 3 .num (.slot 126) (.slot 127)),
 xM 10 128]
def r68_26 := [xM 129 0,
 xM 130 1,
 xM 131 16,
 xM 132 3,
 xM 133 4,
 xL 134 (.call (.const (.func 68 [] [])) [(.slot 129),(.slot 130),(.slot 131),(.slot 132),(.slot 133)])]
def r68_27 := [xM 135 16,
 xL 136 (.bin .add 3 .num (.slot 135) (.const (.int .i64 (.ofNat 1)))),
 xM 1 136]
def r68_28 := [xM 137 19,
 xM 138 20,
 xL 139 (.bin .geq 3 .num (.slot 137) (.slot 138)),
 xM 10 139]
def r68_29 := [xM 140 0,
 xM 141 16,
 xL 142 (.bin .add 3 .num (.slot 141) (.const (.int .i64 (.ofNat 1)))),
 xM 143 2,
 xM 144 3,
 xM 145 4,
 xL 146 (.call (.const (.func 68 [] [])) [(.slot 140),(.slot 142),(.slot 143),(.slot 144),(.slot 145)])]
def r68_30 := [xM 147 16,
 xM 2 147]
def xf68 : XFunc := ⟨(.seq (.region false r68_0)
 (.seq (.region false r68_1)
 (.block 0 (.loop (.block 1 (.seq (.region false r68_2)
 (.seq (.seq (.region false r68_3)
 (.cond (.slot 25)
 (.seq (.region false r68_4)
 .ret)
 .skip))
 (.seq (.seq (.region false r68_5)
 (.cond (.slot 32)
 (.seq (.region false r68_6)
 .ret)
 .skip))
 (.seq (.seq (.region false r68_7)
 (.cond (.slot 39)
 (.seq (.region false r68_8)
 (.region false r68_9))
 .skip))
 (.seq (.region false r68_10)
 (.seq (.seq (.region false r68_11)
 (.cond (.slot 56)
 (.seq (.region false r68_12)
 (.seq (.region false r68_13)
 (.region false r68_14)))
 .skip))
 (.seq (.seq (.region false r68_15)
 (.cond (.slot 75)
 (.seq (.region false r68_16)
 (.cond (.slot 80)
 .ret
 .skip))
 .skip))
 (.seq (.seq (.region true r68_17)
 (.cond (.slot 97)
 (.seq (.region false r68_18)
 (.seq (.region false r68_19)
 (.exit 1)))
 .skip))
 (.seq (.region false r68_20)
 (.seq (.region false r68_21)
 (.seq (.region false r68_22)
 (.seq (.region false r68_23)
 (.seq (.region false r68_24)
 (.cond (.slot 125)
 (.seq (.region false r68_25)
 (.seq (.region false r68_26)
 (.region false r68_27)))
 (.seq (.region false r68_28)
 (.seq (.region false r68_29)
 (.region false r68_30)))))))))))))))))))))),
 []⟩
theorem xf68_ok : cmF Tryz.prog Tryz.f68 = some xf68 := by kernel_rfl
def r70_0 := [xL 2 (.mv (.const (.int .i64 (.ofNat 0))))]
def r70_1 := [xL 3 (.mv (.const (.int .i64 (.ofNat 0))))]
def r70_2 := [xM 6 0,
 xL 7 (.len .slice (.slot 6)),
 xL 8 (.mv (.const (.int .i64 (.ofNat 0))))]
def r70_3 := [xL 9 (.bin .lss 3 .num (.slot 8) (.slot 7))]
def r70_4 := [xL 10 (.iaddr 1 (.slot 6) (.slot 8)),
 xL 11 (.load false 1 (.slot 10)),
 xM 5 11]
def r70_5 := [xM 12 5,
 xM 13 3,
 xL 14 (.bin .neq 3 .num (.slot 12) (.slot 13))]
def r70_6 := [xM 15 5,
 xM 2 15]
def r70_7 := [xL 16 (.bin .add 3 .num (.slot 8) (.const (.int .i64 (.ofNat 1)))),
 xM 8 16]
def r70_8 := [xM 17 3,
 xM 2 17]
def xf70 : XFunc := ⟨(.seq (.region false r70_0)
 (.seq (.region false r70_1)
 (.seq (.seq (.region false r70_2)
 (.block 0 (.loop (.seq (.region false r70_3)
 (.seq (.cond (.slot 9)
 .skip
 (.exit 0))
 (.seq (.block 1 (.seq (.region false r70_4)
 (.seq (.region false r70_5)
 (.cond (.slot 14)
 (.seq (.region false r70_6)
 .ret)
 .skip))))
 (.region false r70_7)))))))
 (.seq (.region false r70_8)
 .ret)))),
 [.tmp 2]⟩
theorem xf70_ok : cmF Tryz.prog Tryz.f70 = some xf70 := by kernel_rfl
def r71_0 := [xL 4 (.mv (.const (.int .i64 (.ofNat 0))))]
def r71_1 := [xM 7 0,
 xL 8 (.call (.const (.func 88 [] [])) [(.slot 7)]),
 xM 5 8]
def r71_2 := [xM 9 1,
 xL 10 (.call (.const (.func 88 [] [])) [(.slot 9)]),
 xM 6 10]
def r71_3 := [xM 11 5]
def r71_4 := [xM 12 6]
def r71_5 := [xL 4 (.mv (.const (.int .i64 (.ofNat 0))))]
def r71_6 := [xL 4 (.mv (.const (.int .i64 (.negSucc 0))))]
def r71_7 := [xM 13 6]
def r71_8 := [xL 4 (.mv (.const (.int .i64 (.ofNat 1))))]
def r71_9 := [xM 14 0,
 xM 15 1,
 xL 16 (.bin .lss 3 .num (.slot 14) (.slot 15))]
def r71_10 := [xL 4 (.mv (.const (.int .i64 (.negSucc 0))))]
def r71_11 := [xM 17 0,
 xM 18 1,
 xL 19 (.bin .gtr 3 .num (.slot 17) (.slot 18))]
def r71_12 := [xL 4 (.mv (.const (.int .i64 (.ofNat 1))))]
def r71_13 := [xL 4 (.mv (.const (.int .i64 (.ofNat 0))))]
def xf71 : XFunc := ⟨(.seq (.region false r71_0)
 (.seq (.region false r71_1)
 (.seq (.region false r71_2)
 (.seq (.seq (.region false r71_3)
 (.cond (.slot 11)
 (.seq (.seq (.region false r71_4)
 (.cond (.slot 12)
 (.seq (.region false r71_5)
 .ret)
 .skip))
 (.seq (.region false r71_6)
 .ret))
 .skip))
 (.seq (.seq (.region false r71_7)
 (.cond (.slot 13)
 (.seq (.region false r71_8)
 .ret)
 .skip))
 (.seq (.seq (.region false r71_9)
 (.cond (.slot 16)
 (.seq (.region false r71_10)
 .ret)
 .skip))
 (.seq (.seq (.region false r71_11)
 (.cond (.slot 19)
 (.seq (.region false r71_12)
 .ret)
 .skip))
 (.seq (.region false r71_13)
 .ret)))))))),
 [.tmp 4]⟩
theorem xf71_ok : cmF Tryz.prog Tryz.f71 = some xf71 := by kernel_rfl
def r72_0 := [xL 4 (.mv (.const (.int .i64 (.ofNat 0))))]
def r72_1 := [xM 7 0,
 xL 8 (.call (.const (.func 89 [] [])) [(.slot 7)]),
 xM 5 8]
def r72_2 := [xM 9 1,
 xL 10 (.call (.const (.func 89 [] [])) [(.slot 9)]),
 xM 6 10]
def r72_3 := [xM 11 5]
def r72_4 := [xM 12 6]
def r72_5 := [xL 4 (.mv (.const (.int .i64 (.ofNat 0))))]
def r72_6 := [xL 4 (.mv (.const (.int .i64 (.negSucc 0))))]
def r72_7 := [xM 13 6]
def r72_8 := [xL 4 (.mv (.const (.int .i64 (.ofNat 1))))]
def r72_9 := [xM 14 0,
 xM 15 1,
 xL 16 (.bin .lss 40 .num (.slot 14) (.slot 15))]
def r72_10 := [xL 4 (.mv (.const (.int .i64 (.negSucc 0))))]
def r72_11 := [xM 17 0,
 xM 18 1,
 xL 19 (.bin .gtr 40 .num (.slot 17) (.slot 18))]
def r72_12 := [xL 4 (.mv (.const (.int .i64 (.ofNat 1))))]
def r72_13 := [xL 4 (.mv (.const (.int .i64 (.ofNat 0))))]
def xf72 : XFunc := ⟨(.seq (.region false r72_0)
 (.seq (.region false r72_1)
 (.seq (.region false r72_2)
 (.seq (.seq (.region false r72_3)
 (.cond (.slot 11)
 (.seq (.seq (.region false r72_4)
 (.cond (.slot 12)
 (.seq (.region false r72_5)
 .ret)
 .skip))
 (.seq (.region false r72_6)
 .ret))
 .skip))
 (.seq (.seq (.region false r72_7)
 (.cond (.slot 13)
 (.seq (.region false r72_8)
 .ret)
 .skip))
 (.seq (.seq (.region false r72_9)
 (.cond (.slot 16)
 (.seq (.region false r72_10)
 .ret)
 .skip))
 (.seq (.seq (.region false r72_11)
 (.cond (.slot 19)
 (.seq (.region false r72_12)
 .ret)
 .skip))
 (.seq (.region false r72_13)
 .ret)))))))),
 [.tmp 4]⟩
theorem xf72_ok : cmF Tryz.prog Tryz.f72 = some xf72 := by kernel_rfl
def r73_0 := [xL 4 (.mv (.const (.int .i64 (.ofNat 0))))]
def r73_1 := [xM 6 0,
 xL 7 (.len .slice (.slot 6)),
 xL 8 (.mv (.const (.int .i64 (.ofNat 0))))]
def r73_2 := [xL 9 (.bin .lss 3 .num (.slot 8) (.slot 7))]
def r73_3 := [xM 10 8,
 xM 5 10]
def r73_4 := [xM 11 1,
 xM 12 0,
 xM 13 5,
 xL 14 (.iaddr 1 (.slot 12) (.slot 13)),
 xL 15 (.load false 1 (.slot 14)),
 xL 16 (.bin .eql 40 .num (.slot 11) (.slot 15))]
def r73_5 := [xM 17 5,
 xM 4 17]
def r73_6 := [xL 18 (.bin .add 3 .num (.slot 8) (.const (.int .i64 (.ofNat 1)))),
 xM 8 18]
def r73_7 := [xL 4 (.mv (.const (.int .i64 (.negSucc 0))))]
def xf73 : XFunc := ⟨(.seq (.region false r73_0)
 (.seq (.seq (.region false r73_1)
 (.block 0 (.loop (.seq (.region false r73_2)
 (.seq (.cond (.slot 9)
 .skip
 (.exit 0))
 (.seq (.block 1 (.seq (.region false r73_3)
 (.seq (.region false r73_4)
 (.cond (.slot 16)
 (.seq (.region false r73_5)
 .ret)
 .skip))))
 (.region false r73_6)))))))
 (.seq (.region false r73_7)
 .ret))),
 [.tmp 4]⟩
theorem xf73_ok : cmF Tryz.prog Tryz.f73 = some xf73 := by kernel_rfl
def r74_0 := [xL 2 (.load false 1 (.slot 0)),
 xL 3 (.load false 1 (.slot 1)),
 xL 4 (.call (.const (.func 38 [] [])) [(.slot 2),(.slot 3)])]
def xf74 : XFunc := ⟨(.region false r74_0),
 []⟩
theorem xf74_ok : cmF Tryz.prog Tryz.f74 = some xf74 := by kernel_rfl
def r75_0 := [xL 4 (.mv (.const (.bool false)))]
def r75_1 := [xM 5 0,
 xL 6 (.call (.const (.func 36 [] [])) [(.slot 5)]),
 xM 7 1,
 xL 8 (.call (.const (.func 36 [] [])) [(.slot 7)]),
 xL 9 (.bin .lss 3 .num (.slot 6) (.slot 8)),
 xM 10 9,
 ⟨⟨.mv (.slot 0),some 11,some (10,false)⟩,[]⟩,
 ⟨⟨.call (.const (.func 36 [] [])) [(.slot 11)],some 12,some (10,false)⟩,[]⟩,
 ⟨⟨.mv (.slot 1),some 13,some (10,false)⟩,[]⟩,
 ⟨⟨.call (.const (.func 36 [] [])) [(.slot 13)],some 14,some (10,false)⟩,[]⟩,
 ⟨⟨.bin .eql 3 .num (.slot 12) (.slot 14),some 15,some (10,false)⟩,[]⟩,
 ⟨⟨.mv (.slot 15),some 16,some (10,false)⟩,[]⟩,
 ⟨⟨.mv (.slot 0),some 17,some (16,true)⟩,[]⟩,
 ⟨⟨.mv (.slot 1),some 18,some (16,true)⟩,[]⟩,
 ⟨⟨.bin .lss 40 .num (.slot 17) (.slot 18),some 19,some (16,true)⟩,[]⟩,
 ⟨⟨.pick (.slot 16) (.slot 19) (.const (.bool false)),some 20,some (10,false)⟩,[]⟩,
 xL 21 (.pick (.slot 10) (.const (.bool true)) (.slot 20)),
 xM 4 21]
def xf75 : XFunc := ⟨(.seq (.region false r75_0)
 (.seq (.region false r75_1)
 .ret)),
 [.tmp 4]⟩
theorem xf75_ok : cmF Tryz.prog Tryz.f75 = some xf75 := by kernel_rfl
def r78_0 := [xM 10 1,
 xL 11 (.bin .add 3 .num (.slot 10) (.const (.int .i64 (.ofNat 1)))),
 xM 8 11]
def r78_1 := [xM 12 8,
 xM 13 2,
 xL 14 (.bin .lss 3 .num (.slot 12) (.slot 13))]
def r78_2 := [xM 17 8,
 xM 9 17]
def r78_3 := [xM 18 9,
 xM 19 1,
 xL 20 (.bin .gtr 3 .num (.slot 18) (.slot 19)),
 xM 21 20,
 ⟨⟨.mv (.slot 3),some 22,some (21,true)⟩,[]⟩,
 ⟨⟨.mv (.slot 0),some 23,some (21,true)⟩,[]⟩,
 ⟨⟨.mv (.slot 9),some 24,some (21,true)⟩,[]⟩,
 ⟨⟨.iaddr 1 (.slot 23) (.slot 24),some 25,some (21,true)⟩,[]⟩,
 ⟨⟨.load false 1 (.slot 25),some 26,some (21,true)⟩,[]⟩,
 ⟨⟨.mv (.slot 0),some 27,some (21,true)⟩,[]⟩,
 ⟨⟨.mv (.slot 9),some 28,some (21,true)⟩,[]⟩,
 ⟨⟨.bin .sub 3 .num (.slot 28) (.const (.int .i64 (.ofNat 1))),some 29,some (21,true)⟩,[]⟩,
 ⟨⟨.iaddr 1 (.slot 27) (.slot 29),some 30,some (21,true)⟩,[]⟩,
 ⟨⟨.load false 1 (.slot 30),some 31,some (21,true)⟩,[]⟩,
 ⟨⟨.call (.slot 22) [(.slot 26),(.slot 31)],some 32,some (21,true)⟩,[]⟩,
 ⟨⟨.bin .lss 3 .num (.slot 32) (.const (.int .i64 (.ofNat 0))),some 33,some (21,true)⟩,[]⟩,
 xL 34 (.pick (.slot 21) (.slot 33) (.const (.bool false)))]
def r78_4 := [xM 37 0,
 xM 38 9,
 xM 39 0,
 xM 40 9,
 xL 41 (.bin .sub 3 .num (.slot 40) (.const (.int .i64 (.ofNat 1)))),
 xM 42 0,
 xM 43 9,
 xL 44 (.bin .sub 3 .num (.slot 43) (.const (.int .i64 (.ofNat 1)))),
 xL 45 (.iaddr 1 (.slot 42) (.slot 44)),
 xL 46 (.load false 1 (.slot 45)),
 xM 47 0,
 xM 48 9,
 xL 49 (.iaddr 1 (.slot 47) (.slot 48)),
 xL 50 (.load false 1 (.slot 49)),
 xL 51 (.iaddr 1 (.slot 37) (.slot 38)),
 ⟨⟨.store 1 (.slot 51) (.slot 46),none,none⟩,[]⟩,
 xL 52 (.iaddr 1 (.slot 39) (.slot 41)),
 ⟨⟨.store 1 (.slot 52) (.slot 50),none,none⟩,[]⟩]
def r78_5 := [xM 35 9,
 xL 36 (.bin .sub 3 .num (.slot 35) (.const (.int .i64 (.ofNat 1)))),
 xM 9 36]
def r78_6 := [xM 15 8,
 xL 16 (.bin .add 3 .num (.slot 15) (.const (.int .i64 (.ofNat 1)))),
 xM 8 16]
def xf78 : XFunc := ⟨(.seq (.region false r78_0)
 (.block 0 (.loop (.seq (.seq (.region false r78_1)
 (.cond (.slot 14)
 .skip
 (.exit 0)))
 (.seq (.block 1 (.seq (.region false r78_2)
 (.block 2 (.loop (.seq (.seq (.region true r78_3)
 (.cond (.slot 34)
 .skip
 (.exit 2)))
 (.seq (.block 3 (.region true r78_4))
 (.region false r78_5)))))))
 (.region false r78_6)))))),
 []⟩
theorem xf78_ok : cmF Tryz.prog Tryz.f78 = some xf78 := by kernel_rfl
def r88_0 := [xL 2 (.mv (.const (.bool false)))]
def r88_1 := [xM 3 0,
 xM 4 0,
 xL 5 (.bin .neq 3 .num (.slot 3) (.slot 4)),
 xM 2 5]
def xf88 : XFunc := ⟨(.seq (.region false r88_0)
 (.seq (.region false r88_1)
 .ret)),
 [.tmp 2]⟩
theorem xf88_ok : cmF Tryz.prog Tryz.f88 = some xf88 := by kernel_rfl
def r89_0 := [xL 2 (.mv (.const (.bool false)))]
def r89_1 := [xM 3 0,
 xM 4 0,
 xL 5 (.bin .neq 40 .num (.slot 3) (.slot 4)),
 xM 2 5]
def xf89 : XFunc := ⟨(.seq (.region false r89_0)
 (.seq (.region false r89_1)
 .ret)),
 [.tmp 2]⟩
theorem xf89_ok : cmF Tryz.prog Tryz.f89 = some xf89 := by kernel_rfl
end Go.Proofs.YtmkbnbpblhoekaaGreat

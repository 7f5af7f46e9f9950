/- Part of a proof for X's executor: what the program's functions answer. -/
import Derived.Test.YtmkbnbpblhoekaaGreatProg
import Derived.Test.YtmkbnbpblhoekaaGreatW0
import Derived.KernelRfl
namespace Go.Proofs.YtmkbnbpblhoekaaGreat
open Go.Xr
def r3_0 := [xL 2 (.box (.slot 0)),
 xL 4 (.mv (.const (.bool false)))]
def r3_1 := [xL 16 (.load true 2 (.slot 2)),
 xM 17 1,
 xL 18 (.call (.const (.func 4 [] [])) [(.slot 16),(.slot 17)])]
def r3_2 := [xL 19 (.call (.const (.func 5 [] [])) []),
 xM 4 19]
def r3_3 := [xL 20 (.load true 2 (.slot 2)),
 xL 21 (.call (.const (.func 6 [] [])) [(.slot 20)]),
 xM 22 1,
 xL 23 (.call (.const (.func 7 [] [])) [(.slot 22)]),
 xL 5 (.alloc [(.int .i64 (.ofNat 0)),.nils]),
 ⟨⟨.store 2 (.slot 5) (.slot 21),none,none⟩,[]⟩,
 xM 6 23]
def r3_4 := [xL 25 (.load true 2 (.slot 5)),
 xL 26 (.call (.const (.func 8 [] [])) [(.slot 25)]),
 xM 24 26,
 xL 27 (.extract (.slot 24) 0),
 xL 28 (.extract (.slot 24) 1),
 xM 7 27,
 xM 8 28]
def r3_5 := [xL 30 (.load true 2 (.slot 2)),
 xL 31 (.call (.const (.func 9 [] [])) [(.slot 30)]),
 xM 29 31,
 xL 32 (.extract (.slot 29) 0),
 xL 33 (.extract (.slot 29) 1),
 xM 9 32,
 xM 10 33]
def r3_6 := [xM 34 8,
 xM 35 10,
 xL 36 (.bin .neq 31 .num (.slot 34) (.slot 35)),
 xM 37 36,
 ⟨⟨.mv (.slot 7),some 38,some (37,false)⟩,[]⟩,
 ⟨⟨.bin .eql 30 .ptr (.slot 38) (.const .nilp),some 39,some (37,false)⟩,[]⟩,
 ⟨⟨.mv (.slot 8),some 40,some (37,false)⟩,[]⟩,
 ⟨⟨.bin .neq 31 .num (.slot 40) (.const (.int .i64 (.ofNat 0))),some 41,some (37,false)⟩,[]⟩,
 ⟨⟨.bin .neq 4 .bool (.slot 39) (.slot 41),some 42,some (37,false)⟩,[]⟩,
 xL 43 (.pick (.slot 37) (.const (.bool true)) (.slot 42))]
def r3_7 := [xL 4 (.mv (.const (.bool false)))]
def r3_8 := [xM 44 8,
 xL 45 (.bin .neq 31 .num (.slot 44) (.const (.int .i64 (.ofNat 0))))]
def r3_9 := [xL 46 (.call (.const (.func 5 [] [])) []),
 xM 4 46]
def r3_10 := [xL 11 (.mv (.const (.int .i64 (.ofNat 0))))]
def r3_11 := [xM 47 11,
 xL 48 (.faddr 1 (.slot 5)),
 xL 49 (.load false 1 (.slot 48)),
 xL 50 (.len .slice (.slot 49)),
 xL 51 (.bin .lss 3 .num (.slot 47) (.slot 50))]
def r3_12 := [xL 54 (.faddr 1 (.slot 5)),
 xL 55 (.load false 1 (.slot 54)),
 xM 56 11,
 xL 57 (.iaddr 1 (.slot 55) (.slot 56)),
 xL 58 (.load false 1 (.slot 57)),
 xL 59 (.faddr 1 (.slot 2)),
 xL 60 (.load false 1 (.slot 59)),
 xM 61 11,
 xL 62 (.iaddr 1 (.slot 60) (.slot 61)),
 xL 63 (.load false 1 (.slot 62)),
 xL 64 (.call (.const (.func 10 [] [])) [(.slot 58),(.slot 63)]),
 xL 65 (.un .not (.slot 64))]
def r3_13 := [xL 4 (.mv (.const (.bool false)))]
def r3_14 := [xL 12 (.mv (.const (.int .i64 (.ofNat 0))))]
def r3_15 := [xM 66 12,
 xL 67 (.faddr 1 (.slot 5)),
 xL 68 (.load false 1 (.slot 67)),
 xM 69 11,
 xL 70 (.iaddr 1 (.slot 68) (.slot 69)),
 xL 71 (.load false 1 (.slot 70)),
 xL 72 (.len .slice (.slot 71)),
 xL 73 (.bin .lss 3 .num (.slot 66) (.slot 72))]
def r3_16 := [xL 76 (.faddr 1 (.slot 5)),
 xL 77 (.load false 1 (.slot 76)),
 xM 78 11,
 xL 79 (.iaddr 1 (.slot 77) (.slot 78)),
 xL 80 (.load false 1 (.slot 79)),
 xM 81 12,
 xL 82 (.iaddr 1 (.slot 80) (.slot 81)),
 ⟨⟨.store 1 (.slot 82) (.const (.int .i32 (.ofNat 9999))),none,none⟩,[]⟩]
def r3_17 := [xM 74 12,
 xL 75 (.bin .add 3 .num (.slot 74) (.const (.int .i64 (.ofNat 1)))),
 xM 12 75]
def r3_18 := [xM 52 11,
 xL 53 (.bin .add 3 .num (.slot 52) (.const (.int .i64 (.ofNat 1)))),
 xM 11 53]
def r3_19 := [xL 13 (.mv (.const (.int .i64 (.ofNat 0))))]
def r3_20 := [xM 83 13,
 xM 84 6,
 xL 85 (.len .slice (.slot 84)),
 xL 86 (.bin .lss 3 .num (.slot 83) (.slot 85))]
def r3_21 := [xM 89 7,
 xM 90 6,
 xM 91 13,
 xL 92 (.iaddr 4 (.slot 90) (.slot 91)),
 xL 93 (.load true 4 (.slot 92)),
 xM 95 9,
 xM 96 1,
 xM 97 13,
 xL 98 (.iaddr 4 (.slot 96) (.slot 97)),
 xL 99 (.load true 4 (.slot 98)),
 ⟨⟨.call (.const (.func 11 [] [])) [(.slot 89),(.slot 93)],some 94,none⟩,[⟨.load true 4 (.slot 98),some 99,none⟩]⟩,
 xL 100 (.call (.const (.func 12 [] [])) [(.slot 95),(.slot 99)]),
 xM 14 94,
 xM 15 100]
def r3_22 := [xM 101 14,
 xM 102 15,
 xL 103 (.bin .neq 31 .num (.slot 101) (.slot 102)),
 xM 104 103,
 ⟨⟨.mv (.slot 6),some 105,some (104,false)⟩,[]⟩,
 ⟨⟨.mv (.slot 13),some 106,some (104,false)⟩,[]⟩,
 ⟨⟨.iaddr 4 (.slot 105) (.slot 106),some 107,some (104,false)⟩,[]⟩,
 ⟨⟨.load true 4 (.slot 107),some 108,some (104,false)⟩,[]⟩,
 ⟨⟨.mv (.slot 1),some 109,some (104,false)⟩,[]⟩,
 ⟨⟨.mv (.slot 13),some 110,some (104,false)⟩,[]⟩,
 ⟨⟨.iaddr 4 (.slot 109) (.slot 110),some 111,some (104,false)⟩,[]⟩,
 ⟨⟨.load true 4 (.slot 111),some 112,some (104,false)⟩,[]⟩,
 ⟨⟨.call (.const (.func 13 [] [])) [(.slot 108),(.slot 112)],some 113,some (104,false)⟩,[]⟩,
 ⟨⟨.un .not (.slot 113),some 114,some (104,false)⟩,[]⟩,
 xL 115 (.pick (.slot 104) (.const (.bool true)) (.slot 114))]
def r3_23 := [xL 4 (.mv (.const (.bool false)))]
def r3_24 := [xM 116 6,
 xM 117 13,
 xM 118 13,
 xL 119 (.bin .add 3 .num (.slot 118) (.const (.int .i64 (.ofNat 1)))),
 xL 120 (.slc 4 (.slot 116) (some (.slot 117)) (some (.slot 119)) none),
 xL 121 (.call (.const (.func 14 [] [])) [(.slot 120)])]
def r3_25 := [xM 122 7,
 xM 123 9,
 xL 124 (.call (.const (.func 15 [] [])) [(.slot 122),(.slot 123)]),
 xL 125 (.un .not (.slot 124))]
def r3_26 := [xL 4 (.mv (.const (.bool false)))]
def r3_27 := [xM 87 13,
 xL 88 (.bin .add 3 .num (.slot 87) (.const (.int .i64 (.ofNat 1)))),
 xM 13 88]
def r3_28 := [xM 126 7,
 xM 127 9,
 xL 128 (.call (.const (.func 15 [] [])) [(.slot 126),(.slot 127)]),
 xM 129 128,
 ⟨⟨.call (.const (.func 5 [] [])) [],some 130,some (129,true)⟩,[]⟩,
 xL 131 (.pick (.slot 129) (.slot 130) (.const (.bool false))),
 xM 4 131]
def xf3 : XFunc := ⟨(.seq (.region false r3_0)
 (.seq (.seq (.region false r3_1)
 (.cond (.slot 18)
 (.seq (.region false r3_2)
 .ret)
 .skip))
 (.seq (.region false r3_3)
 (.seq (.region false r3_4)
 (.seq (.region false r3_5)
 (.seq (.seq (.region false r3_6)
 (.cond (.slot 43)
 (.seq (.region false r3_7)
 .ret)
 .skip))
 (.seq (.seq (.region false r3_8)
 (.cond (.slot 45)
 (.seq (.region false r3_9)
 .ret)
 .skip))
 (.seq (.seq (.region false r3_10)
 (.block 0 (.loop (.seq (.seq (.region false r3_11)
 (.cond (.slot 51)
 .skip
 (.exit 0)))
 (.seq (.block 1 (.seq (.seq (.region true r3_12)
 (.cond (.slot 65)
 (.seq (.region false r3_13)
 .ret)
 .skip))
 (.seq (.region false r3_14)
 (.block 2 (.loop (.seq (.seq (.region false r3_15)
 (.cond (.slot 73)
 .skip
 (.exit 2)))
 (.seq (.block 3 (.region false r3_16))
 (.region false r3_17))))))))
 (.region false r3_18))))))
 (.seq (.seq (.region false r3_19)
 (.block 4 (.loop (.seq (.seq (.region false r3_20)
 (.cond (.slot 86)
 .skip
 (.exit 4)))
 (.seq (.block 5 (.seq (.region true r3_21)
 (.seq (.seq (.region true r3_22)
 (.cond (.slot 115)
 (.seq (.region false r3_23)
 .ret)
 .skip))
 (.seq (.region false r3_24)
 (.seq (.region false r3_25)
 (.cond (.slot 125)
 (.seq (.region false r3_26)
 .ret)
 .skip))))))
 (.region false r3_27))))))
 (.seq (.region false r3_28)
 .ret)))))))))),
 [.tmp 4]⟩
theorem xf3_ok : cmF Tryz.prog Tryz.f3 = some xf3 := by kernel_rfl
def r4_0 := [xL 2 (.box (.slot 0)),
 xL 4 (.mv (.const (.bool false)))]
def r4_1 := [xL 5 (.mv (.const (.int .i64 (.ofNat 0))))]
def r4_2 := [xL 6 (.mv (.const (.int .i64 (.ofNat 0))))]
def r4_3 := [xM 7 6,
 xL 8 (.faddr 1 (.slot 2)),
 xL 9 (.load false 1 (.slot 8)),
 xL 10 (.len .slice (.slot 9)),
 xL 11 (.bin .lss 3 .num (.slot 7) (.slot 10)),
 xM 12 11,
 ⟨⟨.mv (.slot 5),some 13,some (12,true)⟩,[]⟩,
 ⟨⟨.bin .leq 3 .num (.slot 13) (.const (.int .i64 (.ofNat 1500))),some 14,some (12,true)⟩,[]⟩,
 xL 15 (.pick (.slot 12) (.slot 14) (.const (.bool false)))]
def r4_4 := [xM 18 5,
 xL 19 (.bin .add 3 .num (.slot 18) (.const (.int .i64 (.ofNat 1)))),
 xL 20 (.faddr 1 (.slot 2)),
 xL 21 (.load false 1 (.slot 20)),
 xM 22 6,
 xL 23 (.iaddr 1 (.slot 21) (.slot 22)),
 xL 24 (.load false 1 (.slot 23)),
 xL 25 (.len .slice (.slot 24)),
 xL 26 (.minmax true (.slot 25) (.const (.int .i64 (.ofNat 1500)))),
 xL 27 (.bin .add 3 .num (.slot 19) (.slot 26)),
 xM 5 27]
def r4_5 := [xM 16 6,
 xL 17 (.bin .add 3 .num (.slot 16) (.const (.int .i64 (.ofNat 1)))),
 xM 6 17]
def r4_6 := [xM 28 5,
 xL 29 (.bin .gtr 3 .num (.slot 28) (.const (.int .i64 (.ofNat 1500)))),
 xM 30 29,
 ⟨⟨.faddr 1 (.slot 2),some 31,some (30,false)⟩,[]⟩,
 ⟨⟨.load false 1 (.slot 31),some 32,some (30,false)⟩,[]⟩,
 ⟨⟨.len .slice (.slot 32),some 33,some (30,false)⟩,[]⟩,
 ⟨⟨.bin .gtr 3 .num (.slot 33) (.const (.int .i64 (.ofNat 200))),some 34,some (30,false)⟩,[]⟩,
 xL 35 (.pick (.slot 30) (.const (.bool true)) (.slot 34)),
 xM 36 35,
 ⟨⟨.mv (.slot 1),some 37,some (36,false)⟩,[]⟩,
 ⟨⟨.call (.const (.func 16 [] [])) [(.slot 37),(.const (.int .i64 (.ofNat 1500)))],some 38,some (36,false)⟩,[]⟩,
 ⟨⟨.bin .gtr 3 .num (.slot 38) (.const (.int .i64 (.ofNat 1500))),some 39,some (36,false)⟩,[]⟩,
 xL 40 (.pick (.slot 36) (.const (.bool true)) (.slot 39)),
 xM 4 40]
def xf4 : XFunc := ⟨(.seq (.region false r4_0)
 (.seq (.region false r4_1)
 (.seq (.seq (.region false r4_2)
 (.block 0 (.loop (.seq (.seq (.region false r4_3)
 (.cond (.slot 15)
 .skip
 (.exit 0)))
 (.seq (.block 1 (.region false r4_4))
 (.region false r4_5))))))
 (.seq (.region false r4_6)
 .ret)))),
 [.tmp 4]⟩
theorem xf4_ok : cmF Tryz.prog Tryz.f4 = some xf4 := by kernel_rfl
def r5_0 := [xL 0 (.mv (.const (.bool false)))]
def r5_1 := [xL 5 (.call (.const (.func 18 [] [])) []),
 xL 6 (.bslice 1 [(.int .i32 (.ofNat 0))] [(0,1,(.const (.int .i32 (.ofNat 1))))] 1),
 xL 7 (.bslice 1 [(.int .i64 (.ofNat 0)),(.int .i64 (.ofNat 0))] [(0,1,(.const (.int .i64 (.ofNat 1)))),(1,1,(.const (.int .i64 (.ofNat 2))))] 2),
 xL 8 (.call (.const (.func 19 [] [])) [(.const (.int .i64 (.ofNat 5))),(.slot 6),(.slot 7)]),
 xL 9 (.bslice 1 [(.int .i64 (.ofNat 0)),(.int .i64 (.ofNat 0)),(.int .i64 (.ofNat 0))] [(0,1,(.const (.int .i64 (.ofNat 5)))),(1,1,(.const (.int .i64 (.ofNat 3)))),(2,1,(.const (.int .i64 (.ofNat 4))))] 3),
 xL 10 (.call (.const (.func 19 [] [])) [(.const (.int .i64 (.ofNat 6))),(.const .nils),(.slot 9)]),
 xL 11 (.bslice 4 [(.int .u8 (.ofNat 0)),(.int .i64 (.ofNat 0)),.nils,.nils,(.int .u8 (.ofNat 0)),(.int .i64 (.ofNat 0)),.nils,.nils] [(0,4,(.slot 8)),(4,4,(.slot 10))] 2),
 xL 12 (.call (.const (.func 17 [] [])) [(.slot 5),(.slot 11)]),
 xM 4 12,
 xL 13 (.extract (.slot 4) 0),
 xL 14 (.extract (.slot 4) 1),
 xL 15 (.extract (.slot 4) 2),
 xM 1 13,
 xM 2 14,
 xM 3 15]
def r5_2 := [xM 16 1,
 xM 17 16,
 ⟨⟨.mv (.slot 2),some 18,some (17,true)⟩,[]⟩,
 ⟨⟨.bin .eql 3 .num (.slot 18) (.const (.int .i64 (.ofNat 2))),some 19,some (17,true)⟩,[]⟩,
 xL 20 (.pick (.slot 17) (.slot 19) (.const (.bool false))),
 xM 21 20,
 ⟨⟨.mv (.slot 3),some 22,some (21,true)⟩,[]⟩,
 ⟨⟨.bin .eql 31 .num (.slot 22) (.const (.int .i64 (.ofNat 0))),some 23,some (21,true)⟩,[]⟩,
 xL 24 (.pick (.slot 21) (.slot 23) (.const (.bool false))),
 xM 0 24]
def xf5 : XFunc := ⟨(.seq (.region false r5_0)
 (.seq (.region false r5_1)
 (.seq (.region false r5_2)
 .ret))),
 [.tmp 0]⟩
theorem xf5_ok : cmF Tryz.prog Tryz.f5 = some xf5 := by kernel_rfl
def r6_0 := [xL 1 (.box (.slot 0)),
 xL 2 (.alloc [(.int .i64 (.ofNat 0)),.nils])]
def r6_1 := [xL 3 (.mv (.const .nils))]
def r6_2 := [xL 4 (.mv (.const (.int .i64 (.ofNat 0))))]
def r6_3 := [xM 6 4,
 xL 7 (.faddr 1 (.slot 1)),
 xL 8 (.load false 1 (.slot 7)),
 xL 9 (.len .slice (.slot 8)),
 xL 10 (.bin .lss 3 .num (.slot 6) (.slot 9))]
def r6_4 := [xL 5 (.mv (.const .nils))]
def r6_5 := [xM 13 5,
 xL 14 (.faddr 1 (.slot 1)),
 xL 15 (.load false 1 (.slot 14)),
 xM 16 4,
 xL 17 (.iaddr 1 (.slot 15) (.slot 16)),
 xL 18 (.load false 1 (.slot 17)),
 xL 19 (.append 1 4 (.slot 13) (.slot 18)),
 xM 5 19]
def r6_6 := [xM 20 3,
 xM 21 5,
 xL 22 (.bslice 1 [.nils] [(0,1,(.slot 21))] 1),
 xL 23 (.append 1 24 (.slot 20) (.slot 22)),
 xM 3 23]
def r6_7 := [xM 11 4,
 xL 12 (.bin .add 3 .num (.slot 11) (.const (.int .i64 (.ofNat 1)))),
 xM 4 12]
def r6_8 := [xM 24 3,
 xL 25 (.faddr 1 (.slot 1)),
 ⟨⟨.store 1 (.slot 25) (.slot 24),none,none⟩,[]⟩]
def r6_9 := [xL 26 (.load true 2 (.slot 1)),
 ⟨⟨.store 2 (.slot 2) (.slot 26),none,none⟩,[]⟩]
def xf6 : XFunc := ⟨(.seq (.region false r6_0)
 (.seq (.region false r6_1)
 (.seq (.seq (.region false r6_2)
 (.block 0 (.loop (.seq (.seq (.region false r6_3)
 (.cond (.slot 10)
 .skip
 (.exit 0)))
 (.seq (.block 1 (.seq (.region false r6_4)
 (.seq (.region false r6_5)
 (.region false r6_6))))
 (.region false r6_7))))))
 (.seq (.region false r6_8)
 (.seq (.region false r6_9)
 .ret))))),
 [.cell 2 true 2]⟩
theorem xf6_ok : cmF Tryz.prog Tryz.f6 = some xf6 := by kernel_rfl
def r7_0 := [xL 2 (.mv (.const .nils))]
def r7_1 := [xL 3 (.mv (.const .nils))]
def r7_2 := [xL 4 (.mv (.const (.int .i64 (.ofNat 0))))]
def r7_3 := [xM 8 4,
 xM 9 0,
 xL 10 (.len .slice (.slot 9)),
 xL 11 (.bin .lss 3 .num (.slot 8) (.slot 10))]
def r7_4 := [xM 14 0,
 xM 15 4,
 xL 16 (.iaddr 4 (.slot 14) (.slot 15)),
 xL 17 (.load true 4 (.slot 16)),
 xL 5 (.alloc [(.int .u8 (.ofNat 0)),(.int .i64 (.ofNat 0)),.nils,.nils]),
 ⟨⟨.store 4 (.slot 5) (.slot 17),none,none⟩,[]⟩]
def r7_5 := [xL 6 (.mv (.const .nils))]
def r7_6 := [xM 18 6,
 xL 19 (.faddr 2 (.slot 5)),
 xL 20 (.load false 1 (.slot 19)),
 xL 21 (.append 1 4 (.slot 18) (.slot 20)),
 xM 6 21]
def r7_7 := [xL 7 (.mv (.const .nils))]
def r7_8 := [xM 22 7,
 xL 23 (.faddr 3 (.slot 5)),
 xL 24 (.load false 1 (.slot 23)),
 xL 25 (.append 1 8 (.slot 22) (.slot 24)),
 xM 7 25]
def r7_9 := [xM 26 6,
 xL 27 (.faddr 2 (.slot 5)),
 ⟨⟨.store 1 (.slot 27) (.slot 26),none,none⟩,[]⟩]
def r7_10 := [xM 28 7,
 xL 29 (.faddr 3 (.slot 5)),
 ⟨⟨.store 1 (.slot 29) (.slot 28),none,none⟩,[]⟩]
def r7_11 := [xM 30 3,
 xL 31 (.load true 4 (.slot 5)),
 xL 32 (.bslice 4 [(.int .u8 (.ofNat 0)),(.int .i64 (.ofNat 0)),.nils,.nils] [(0,4,(.slot 31))] 1),
 xL 33 (.append 4 64 (.slot 30) (.slot 32)),
 xM 3 33]
def r7_12 := [xM 12 4,
 xL 13 (.bin .add 3 .num (.slot 12) (.const (.int .i64 (.ofNat 1)))),
 xM 4 13]
def r7_13 := [xM 34 3,
 xM 2 34]
def xf7 : XFunc := ⟨(.seq (.region false r7_0)
 (.seq (.region false r7_1)
 (.seq (.seq (.region false r7_2)
 (.block 0 (.loop (.seq (.seq (.region false r7_3)
 (.cond (.slot 11)
 .skip
 (.exit 0)))
 (.seq (.block 1 (.seq (.region false r7_4)
 (.seq (.region false r7_5)
 (.seq (.region false r7_6)
 (.seq (.region false r7_7)
 (.seq (.region false r7_8)
 (.seq (.region false r7_9)
 (.seq (.region false r7_10)
 (.region false r7_11)))))))))
 (.region false r7_12))))))
 (.seq (.region false r7_13)
 .ret)))),
 [.tmp 2]⟩
theorem xf7_ok : cmF Tryz.prog Tryz.f7 = some xf7 := by kernel_rfl
def r8_0 := [xL 1 (.box (.slot 0)),
 xL 2 (.mv (.const .nilp)),
 xL 3 (.mv (.const (.int .i64 (.ofNat 0))))]
def r8_1 := [xL 8 (.load true 2 (.slot 1)),
 xL 9 (.call (.const (.func 20 [] [])) [(.slot 8)]),
 xM 4 9]
def r8_2 := [xM 10 4,
 xL 11 (.bin .neq 31 .num (.slot 10) (.const (.int .i64 (.ofNat 0))))]
def r8_3 := [xM 12 4,
 xL 2 (.mv (.const .nilp)),
 xM 3 12]
def r8_4 := [xL 13 (.mkmap .i64),
 xL 14 (.build [.nilm,(.int .i64 (.ofNat 0)),(.int .i64 (.ofNat 0)),(.bool false),.nils,.nils] [(0,1,(.slot 13))]),
 xL 15 (.box (.slot 14)),
 xM 5 15]
def r8_5 := [xL 16 (.faddr 1 (.slot 1)),
 xL 17 (.load false 1 (.slot 16)),
 xL 18 (.len .slice (.slot 17)),
 xL 19 (.mv (.const (.int .i64 (.ofNat 0))))]
def r8_6 := [xL 20 (.bin .lss 3 .num (.slot 19) (.slot 18))]
def r8_7 := [xM 21 19,
 xL 22 (.iaddr 1 (.slot 17) (.slot 19)),
 xL 23 (.load false 1 (.slot 22)),
 xM 6 21,
 xM 7 23]
def r8_8 := [xM 24 5,
 xM 25 6,
 xL 26 (.bin .add 3 .num (.slot 25) (.const (.int .i64 (.ofNat 1)))),
 xM 27 7,
 xL 28 (.call (.const (.func 21 [] [])) [(.slot 24),(.slot 26),(.slot 27)])]
def r8_9 := [xL 29 (.bin .add 3 .num (.slot 19) (.const (.int .i64 (.ofNat 1)))),
 xM 19 29]
def r8_10 := [xM 30 5,
 xM 2 30,
 xL 3 (.mv (.const (.int .i64 (.ofNat 0))))]
def xf8 : XFunc := ⟨(.seq (.region false r8_0)
 (.seq (.seq (.region false r8_1)
 (.seq (.region false r8_2)
 (.cond (.slot 11)
 (.seq (.region false r8_3)
 .ret)
 .skip)))
 (.seq (.region false r8_4)
 (.seq (.seq (.region false r8_5)
 (.block 0 (.loop (.seq (.region false r8_6)
 (.seq (.cond (.slot 20)
 .skip
 (.exit 0))
 (.seq (.block 1 (.seq (.region false r8_7)
 (.region false r8_8)))
 (.region false r8_9)))))))
 (.seq (.region false r8_10)
 .ret))))),
 [.tmp 2,.tmp 3]⟩
theorem xf8_ok : cmF Tryz.prog Tryz.f8 = some xf8 := by kernel_rfl
def r9_0 := [xL 1 (.box (.slot 0)),
 xL 2 (.mv (.const .nilp)),
 xL 3 (.mv (.const (.int .i64 (.ofNat 0))))]
def r9_1 := [xL 7 (.load true 2 (.slot 1)),
 xL 8 (.call (.const (.func 22 [] [])) [(.slot 7)]),
 xM 4 8]
def r9_2 := [xM 9 4,
 xL 10 (.bin .neq 31 .num (.slot 9) (.const (.int .i64 (.ofNat 0))))]
def r9_3 := [xM 11 4,
 xL 2 (.mv (.const .nilp)),
 xM 3 11]
def r9_4 := [xL 12 (.build [.nils,(.int .i64 (.ofNat 0)),(.bool false),(.int .i64 (.ofNat 0))] []),
 xL 13 (.box (.slot 12)),
 xM 5 13]
def r9_5 := [xL 6 (.mv (.const (.int .i64 (.ofNat 0))))]
def r9_6 := [xM 14 6,
 xL 15 (.faddr 1 (.slot 1)),
 xL 16 (.load false 1 (.slot 15)),
 xL 17 (.len .slice (.slot 16)),
 xL 18 (.bin .lss 3 .num (.slot 14) (.slot 17))]
def r9_7 := [xM 21 5,
 xM 22 6,
 xL 23 (.bin .add 3 .num (.slot 22) (.const (.int .i64 (.ofNat 1)))),
 xL 24 (.faddr 1 (.slot 1)),
 xL 25 (.load false 1 (.slot 24)),
 xM 26 6,
 xL 27 (.iaddr 1 (.slot 25) (.slot 26)),
 xL 28 (.load false 1 (.slot 27)),
 xL 29 (.call (.const (.func 23 [] [])) [(.slot 21),(.slot 23),(.slot 28)])]
def r9_8 := [xM 19 6,
 xL 20 (.bin .add 3 .num (.slot 19) (.const (.int .i64 (.ofNat 1)))),
 xM 6 20]
def r9_9 := [xM 30 5,
 xM 2 30,
 xL 3 (.mv (.const (.int .i64 (.ofNat 0))))]
def xf9 : XFunc := ⟨(.seq (.region false r9_0)
 (.seq (.region false r9_1)
 (.seq (.seq (.region false r9_2)
 (.cond (.slot 10)
 (.seq (.region false r9_3)
 .ret)
 .skip))
 (.seq (.region false r9_4)
 (.seq (.seq (.region false r9_5)
 (.block 0 (.loop (.seq (.seq (.region false r9_6)
 (.cond (.slot 18)
 .skip
 (.exit 0)))
 (.seq (.block 1 (.region false r9_7))
 (.region false r9_8))))))
 (.seq (.region false r9_9)
 .ret)))))),
 [.tmp 2,.tmp 3]⟩
theorem xf9_ok : cmF Tryz.prog Tryz.f9 = some xf9 := by kernel_rfl
def r10_0 := [xL 4 (.mv (.const (.bool false)))]
def r10_1 := [xM 6 0,
 xL 7 (.len .slice (.slot 6)),
 xM 8 1,
 xL 9 (.len .slice (.slot 8)),
 xL 10 (.bin .neq 3 .num (.slot 7) (.slot 9))]
def r10_2 := [xL 4 (.mv (.const (.bool false)))]
def r10_3 := [xL 5 (.mv (.const (.int .i64 (.ofNat 0))))]
def r10_4 := [xM 11 5,
 xM 12 0,
 xL 13 (.len .slice (.slot 12)),
 xL 14 (.bin .lss 3 .num (.slot 11) (.slot 13))]
def r10_5 := [xM 17 0,
 xM 18 5,
 xL 19 (.iaddr 1 (.slot 17) (.slot 18)),
 xL 20 (.load false 1 (.slot 19)),
 xM 21 1,
 xM 22 5,
 xL 23 (.iaddr 1 (.slot 21) (.slot 22)),
 xL 24 (.load false 1 (.slot 23)),
 xL 25 (.bin .neq 40 .num (.slot 20) (.slot 24))]
def r10_6 := [xL 4 (.mv (.const (.bool false)))]
def r10_7 := [xM 15 5,
 xL 16 (.bin .add 3 .num (.slot 15) (.const (.int .i64 (.ofNat 1)))),
 xM 5 16]
def r10_8 := [xL 4 (.mv (.const (.bool true)))]
def xf10 : XFunc := ⟨(.seq (.region false r10_0)
 (.seq (.seq (.region false r10_1)
 (.cond (.slot 10)
 (.seq (.region false r10_2)
 .ret)
 .skip))
 (.seq (.seq (.region false r10_3)
 (.block 0 (.loop (.seq (.seq (.region false r10_4)
 (.cond (.slot 14)
 .skip
 (.exit 0)))
 (.seq (.block 1 (.seq (.region true r10_5)
 (.cond (.slot 25)
 (.seq (.region false r10_6)
 .ret)
 .skip)))
 (.region false r10_7))))))
 (.seq (.region false r10_8)
 .ret)))),
 [.tmp 4]⟩
theorem xf10_ok : cmF Tryz.prog Tryz.f10 = some xf10 := by kernel_rfl
def r11_0 := [xL 3 (.box (.slot 1)),
 xL 4 (.mv (.const (.int .i64 (.ofNat 0))))]
def r11_1 := [xM 7 0,
 xL 8 (.bin .eql 30 .ptr (.slot 7) (.const .nilp)),
 xM 6 8]
def r11_2 := [xL 4 (.mv (.const (.int .i64 (.ofNat 1))))]
def r11_3 := [xL 10 (.load true 4 (.slot 3)),
 xL 11 (.call (.const (.func 24 [] [])) [(.slot 10)]),
 xL 12 (.un .not (.slot 11)),
 xM 9 12]
def r11_4 := [xL 4 (.mv (.const (.int .i64 (.ofNat 40))))]
def r11_5 := [xL 14 (.faddr 0 (.slot 3)),
 xL 15 (.load false 1 (.slot 14)),
 xL 16 (.bin .eql 5 .num (.slot 15) (.const (.int .u8 (.ofNat 2)))),
 xM 13 16]
def r11_6 := [xM 17 0,
 xL 18 (.faddr 3 (.slot 3)),
 xL 19 (.load false 1 (.slot 18)),
 xL 20 (.call (.const (.func 25 [] [])) [(.slot 17),(.slot 19)]),
 xM 4 20]
def r11_7 := [xL 22 (.faddr 1 (.slot 3)),
 xL 23 (.load false 1 (.slot 22)),
 xM 24 0,
 xL 25 (.nilCheck (.slot 24)),
 xL 26 (.faddr 1 (.slot 25)),
 xL 27 (.load false 1 (.slot 26)),
 xL 28 (.bin .leq 2 .num (.slot 23) (.slot 27)),
 xM 21 28]
def r11_8 := [xL 4 (.mv (.const (.int .i64 (.ofNat 62))))]
def r11_9 := [xM 29 0,
 xL 30 (.faddr 2 (.slot 3)),
 xL 31 (.load false 1 (.slot 30)),
 xL 32 (.faddr 3 (.slot 3)),
 xL 33 (.load false 1 (.slot 32)),
 xL 34 (.call (.const (.func 26 [] [])) [(.slot 29),(.slot 31),(.slot 33)]),
 xM 5 34]
def r11_10 := [xM 35 5,
 xL 36 (.bin .neq 31 .num (.slot 35) (.const (.int .i64 (.ofNat 0))))]
def r11_11 := [xM 37 5,
 xM 4 37]
def r11_12 := [xM 38 0,
 xL 39 (.nilCheck (.slot 38)),
 xL 40 (.faddr 2 (.slot 39)),
 xL 41 (.load false 1 (.slot 40)),
 xL 42 (.faddr 2 (.slot 3)),
 xL 43 (.load false 1 (.slot 42)),
 xL 44 (.len .slice (.slot 43)),
 xL 45 (.bin .add 3 .num (.slot 41) (.slot 44)),
 xL 46 (.bin .gtr 3 .num (.slot 45) (.const (.int .i64 (.ofNat 16777216))))]
def r11_13 := [xL 4 (.mv (.const (.int .i64 (.ofNat 3))))]
def r11_14 := [xM 47 0,
 xL 48 (.faddr 1 (.slot 3)),
 xL 49 (.load false 1 (.slot 48)),
 xL 50 (.faddr 2 (.slot 3)),
 xL 51 (.load false 1 (.slot 50)),
 xL 52 (.call (.const (.func 21 [] [])) [(.slot 47),(.slot 49),(.slot 51)])]
def r11_15 := [xL 4 (.mv (.const (.int .i64 (.ofNat 0))))]
def xf11 : XFunc := ⟨(.seq (.region false r11_0)
 (.seq (.block 0 (.seq (.region false r11_1)
 (.cond (.slot 6)
 (.seq (.region false r11_2)
 .ret)
 (.seq (.region false r11_3)
 (.cond (.slot 9)
 (.seq (.region false r11_4)
 .ret)
 (.seq (.region false r11_5)
 (.cond (.slot 13)
 (.seq (.region false r11_6)
 .ret)
 (.seq (.region true r11_7)
 (.cond (.slot 21)
 (.seq (.region false r11_8)
 .ret)
 .skip)))))))))
 (.seq (.seq (.region false r11_9)
 (.seq (.region false r11_10)
 (.cond (.slot 36)
 (.seq (.region false r11_11)
 .ret)
 .skip)))
 (.seq (.seq (.region true r11_12)
 (.cond (.slot 46)
 (.seq (.region false r11_13)
 .ret)
 .skip))
 (.seq (.region false r11_14)
 (.seq (.region false r11_15)
 .ret)))))),
 [.tmp 4]⟩
theorem xf11_ok : cmF Tryz.prog Tryz.f11 = some xf11 := by kernel_rfl
def r12_0 := [xL 3 (.box (.slot 1)),
 xL 4 (.mv (.const (.int .i64 (.ofNat 0))))]
def r12_1 := [xL 6 (.load true 4 (.slot 3)),
 xL 7 (.call (.const (.func 27 [] [])) [(.slot 6)]),
 xL 8 (.un .not (.slot 7))]
def r12_2 := [xL 4 (.mv (.const (.int .i64 (.ofNat 40))))]
def r12_3 := [xL 9 (.faddr 0 (.slot 3)),
 xL 10 (.load false 1 (.slot 9)),
 xL 11 (.bin .eql 5 .num (.slot 10) (.const (.int .u8 (.ofNat 2))))]
def r12_4 := [xM 12 0,
 xL 13 (.faddr 3 (.slot 3)),
 xL 14 (.load false 1 (.slot 13)),
 xL 15 (.call (.const (.func 28 [] [])) [(.slot 12),(.slot 14)]),
 xM 4 15]
def r12_5 := [xL 16 (.faddr 1 (.slot 3)),
 xL 17 (.load false 1 (.slot 16)),
 xM 18 0,
 xL 19 (.nilCheck (.slot 18)),
 xL 20 (.faddr 1 (.slot 19)),
 xL 21 (.load false 1 (.slot 20)),
 xL 22 (.bin .leq 2 .num (.slot 17) (.slot 21))]
def r12_6 := [xL 4 (.mv (.const (.int .i64 (.ofNat 62))))]
def r12_7 := [xM 23 0,
 xL 24 (.faddr 2 (.slot 3)),
 xL 25 (.load false 1 (.slot 24)),
 xL 26 (.faddr 3 (.slot 3)),
 xL 27 (.load false 1 (.slot 26)),
 xL 28 (.call (.const (.func 29 [] [])) [(.slot 23),(.slot 25),(.slot 27)]),
 xM 5 28]
def r12_8 := [xM 29 5,
 xL 30 (.bin .neq 31 .num (.slot 29) (.const (.int .i64 (.ofNat 0))))]
def r12_9 := [xM 31 5,
 xM 4 31]
def r12_10 := [xM 32 0,
 xL 33 (.nilCheck (.slot 32)),
 xL 34 (.faddr 3 (.slot 33)),
 xL 35 (.load false 1 (.slot 34)),
 xL 36 (.faddr 2 (.slot 3)),
 xL 37 (.load false 1 (.slot 36)),
 xL 38 (.len .slice (.slot 37)),
 xL 39 (.bin .add 3 .num (.slot 35) (.slot 38)),
 xL 40 (.bin .gtr 3 .num (.slot 39) (.const (.int .i64 (.ofNat 16777216))))]
def r12_11 := [xL 4 (.mv (.const (.int .i64 (.ofNat 3))))]
def r12_12 := [xM 41 0,
 xL 42 (.faddr 1 (.slot 3)),
 xL 43 (.load false 1 (.slot 42)),
 xL 44 (.faddr 2 (.slot 3)),
 xL 45 (.load false 1 (.slot 44)),
 xL 46 (.call (.const (.func 23 [] [])) [(.slot 41),(.slot 43),(.slot 45)])]
def r12_13 := [xL 4 (.mv (.const (.int .i64 (.ofNat 0))))]
def xf12 : XFunc := ⟨(.seq (.region false r12_0)
 (.seq (.seq (.region false r12_1)
 (.cond (.slot 8)
 (.seq (.region false r12_2)
 .ret)
 .skip))
 (.seq (.seq (.region false r12_3)
 (.cond (.slot 11)
 (.seq (.region false r12_4)
 .ret)
 .skip))
 (.seq (.seq (.region true r12_5)
 (.cond (.slot 22)
 (.seq (.region false r12_6)
 .ret)
 .skip))
 (.seq (.region false r12_7)
 (.seq (.seq (.region false r12_8)
 (.cond (.slot 30)
 (.seq (.region false r12_9)
 .ret)
 .skip))
 (.seq (.seq (.region true r12_10)
 (.cond (.slot 40)
 (.seq (.region false r12_11)
 .ret)
 .skip))
 (.seq (.region false r12_12)
 (.seq (.region false r12_13)
 .ret))))))))),
 [.tmp 4]⟩
theorem xf12_ok : cmF Tryz.prog Tryz.f12 = some xf12 := by kernel_rfl
def r13_0 := [xL 2 (.box (.slot 0)),
 xL 3 (.box (.slot 1)),
 xL 4 (.mv (.const (.bool false)))]
def r13_1 := [xL 7 (.faddr 0 (.slot 2)),
 xL 8 (.load false 1 (.slot 7)),
 xL 9 (.faddr 0 (.slot 3)),
 xL 10 (.load false 1 (.slot 9)),
 xL 11 (.bin .neq 5 .num (.slot 8) (.slot 10)),
 xM 12 11,
 ⟨⟨.faddr 1 (.slot 2),some 13,some (12,false)⟩,[]⟩,
 ⟨⟨.load false 1 (.slot 13),some 14,some (12,false)⟩,[]⟩,
 ⟨⟨.faddr 1 (.slot 3),some 15,some (12,false)⟩,[]⟩,
 ⟨⟨.load false 1 (.slot 15),some 16,some (12,false)⟩,[]⟩,
 ⟨⟨.bin .neq 2 .num (.slot 14) (.slot 16),some 17,some (12,false)⟩,[]⟩,
 xL 18 (.pick (.slot 12) (.const (.bool true)) (.slot 17)),
 xM 19 18,
 ⟨⟨.faddr 2 (.slot 2),some 20,some (19,false)⟩,[]⟩,
 ⟨⟨.load false 1 (.slot 20),some 21,some (19,false)⟩,[]⟩,
 ⟨⟨.len .slice (.slot 21),some 22,some (19,false)⟩,[]⟩,
 ⟨⟨.faddr 2 (.slot 3),some 23,some (19,false)⟩,[]⟩,
 ⟨⟨.load false 1 (.slot 23),some 24,some (19,false)⟩,[]⟩,
 ⟨⟨.len .slice (.slot 24),some 25,some (19,false)⟩,[]⟩,
 ⟨⟨.bin .neq 3 .num (.slot 22) (.slot 25),some 26,some (19,false)⟩,[]⟩,
 xL 27 (.pick (.slot 19) (.const (.bool true)) (.slot 26)),
 xM 28 27,
 ⟨⟨.faddr 3 (.slot 2),some 29,some (28,false)⟩,[]⟩,
 ⟨⟨.load false 1 (.slot 29),some 30,some (28,false)⟩,[]⟩,
 ⟨⟨.len .slice (.slot 30),some 31,some (28,false)⟩,[]⟩,
 ⟨⟨.faddr 3 (.slot 3),some 32,some (28,false)⟩,[]⟩,
 ⟨⟨.load false 1 (.slot 32),some 33,some (28,false)⟩,[]⟩,
 ⟨⟨.len .slice (.slot 33),some 34,some (28,false)⟩,[]⟩,
 ⟨⟨.bin .neq 3 .num (.slot 31) (.slot 34),some 35,some (28,false)⟩,[]⟩,
 xL 36 (.pick (.slot 28) (.const (.bool true)) (.slot 35))]
def r13_2 := [xL 4 (.mv (.const (.bool false)))]
def r13_3 := [xL 5 (.mv (.const (.int .i64 (.ofNat 0))))]
def r13_4 := [xM 37 5,
 xL 38 (.faddr 2 (.slot 2)),
 xL 39 (.load false 1 (.slot 38)),
 xL 40 (.len .slice (.slot 39)),
 xL 41 (.bin .lss 3 .num (.slot 37) (.slot 40))]
def r13_5 := [xL 44 (.faddr 2 (.slot 2)),
 xL 45 (.load false 1 (.slot 44)),
 xM 46 5,
 xL 47 (.iaddr 1 (.slot 45) (.slot 46)),
 xL 48 (.load false 1 (.slot 47)),
 xL 49 (.faddr 2 (.slot 3)),
 xL 50 (.load false 1 (.slot 49)),
 xM 51 5,
 xL 52 (.iaddr 1 (.slot 50) (.slot 51)),
 xL 53 (.load false 1 (.slot 52)),
 xL 54 (.bin .neq 40 .num (.slot 48) (.slot 53))]
def r13_6 := [xL 4 (.mv (.const (.bool false)))]
def r13_7 := [xM 42 5,
 xL 43 (.bin .add 3 .num (.slot 42) (.const (.int .i64 (.ofNat 1)))),
 xM 5 43]
def r13_8 := [xL 6 (.mv (.const (.int .i64 (.ofNat 0))))]
def r13_9 := [xM 55 6,
 xL 56 (.faddr 3 (.slot 2)),
 xL 57 (.load false 1 (.slot 56)),
 xL 58 (.len .slice (.slot 57)),
 xL 59 (.bin .lss 3 .num (.slot 55) (.slot 58))]
def r13_10 := [xL 62 (.faddr 3 (.slot 2)),
 xL 63 (.load false 1 (.slot 62)),
 xM 64 6,
 xL 65 (.iaddr 1 (.slot 63) (.slot 64)),
 xL 66 (.load false 1 (.slot 65)),
 xL 67 (.faddr 3 (.slot 3)),
 xL 68 (.load false 1 (.slot 67)),
 xM 69 6,
 xL 70 (.iaddr 1 (.slot 68) (.slot 69)),
 xL 71 (.load false 1 (.slot 70)),
 xL 72 (.bin .neq 2 .num (.slot 66) (.slot 71))]
def r13_11 := [xL 4 (.mv (.const (.bool false)))]
def r13_12 := [xM 60 6,
 xL 61 (.bin .add 3 .num (.slot 60) (.const (.int .i64 (.ofNat 1)))),
 xM 6 61]
def r13_13 := [xL 4 (.mv (.const (.bool true)))]
def xf13 : XFunc := ⟨(.seq (.region false r13_0)
 (.seq (.seq (.region false r13_1)
 (.cond (.slot 36)
 (.seq (.region false r13_2)
 .ret)
 .skip))
 (.seq (.seq (.region false r13_3)
 (.block 0 (.loop (.seq (.seq (.region false r13_4)
 (.cond (.slot 41)
 .skip
 (.exit 0)))
 (.seq (.block 1 (.seq (.region true r13_5)
 (.cond (.slot 54)
 (.seq (.region false r13_6)
 .ret)
 .skip)))
 (.region false r13_7))))))
 (.seq (.seq (.region false r13_8)
 (.block 2 (.loop (.seq (.seq (.region false r13_9)
 (.cond (.slot 59)
 .skip
 (.exit 2)))
 (.seq (.block 3 (.seq (.region true r13_10)
 (.cond (.slot 72)
 (.seq (.region false r13_11)
 .ret)
 .skip)))
 (.region false r13_12))))))
 (.seq (.region false r13_13)
 .ret))))),
 [.tmp 4]⟩
theorem xf13_ok : cmF Tryz.prog Tryz.f13 = some xf13 := by kernel_rfl
def r14_0 := [xL 2 (.mv (.const (.int .i64 (.ofNat 0))))]
def r14_1 := [xM 5 2,
 xM 6 0,
 xL 7 (.len .slice (.slot 6)),
 xL 8 (.bin .lss 3 .num (.slot 5) (.slot 7))]
def r14_2 := [xL 3 (.mv (.const (.int .i64 (.ofNat 0))))]
def r14_3 := [xM 11 3,
 xM 12 0,
 xM 13 2,
 xL 14 (.iaddr 4 (.slot 12) (.slot 13)),
 xL 15 (.faddr 2 (.slot 14)),
 xL 16 (.load false 1 (.slot 15)),
 xL 17 (.len .slice (.slot 16)),
 xL 18 (.bin .lss 3 .num (.slot 11) (.slot 17))]
def r14_4 := [xM 21 0,
 xM 22 2,
 xL 23 (.iaddr 4 (.slot 21) (.slot 22)),
 xL 24 (.faddr 2 (.slot 23)),
 xL 25 (.load false 1 (.slot 24)),
 xM 26 3,
 xL 27 (.iaddr 1 (.slot 25) (.slot 26)),
 ⟨⟨.store 1 (.slot 27) (.const (.int .i32 (.ofNat 99))),none,none⟩,[]⟩]
def r14_5 := [xM 19 3,
 xL 20 (.bin .add 3 .num (.slot 19) (.const (.int .i64 (.ofNat 1)))),
 xM 3 20]
def r14_6 := [xL 4 (.mv (.const (.int .i64 (.ofNat 0))))]
def r14_7 := [xM 28 4,
 xM 29 0,
 xM 30 2,
 xL 31 (.iaddr 4 (.slot 29) (.slot 30)),
 xL 32 (.faddr 3 (.slot 31)),
 xL 33 (.load false 1 (.slot 32)),
 xL 34 (.len .slice (.slot 33)),
 xL 35 (.bin .lss 3 .num (.slot 28) (.slot 34))]
def r14_8 := [xM 38 0,
 xM 39 2,
 xL 40 (.iaddr 4 (.slot 38) (.slot 39)),
 xL 41 (.faddr 3 (.slot 40)),
 xL 42 (.load false 1 (.slot 41)),
 xM 43 4,
 xL 44 (.iaddr 1 (.slot 42) (.slot 43)),
 ⟨⟨.store 1 (.slot 44) (.const (.int .i64 (.ofNat 99))),none,none⟩,[]⟩]
def r14_9 := [xM 36 4,
 xL 37 (.bin .add 3 .num (.slot 36) (.const (.int .i64 (.ofNat 1)))),
 xM 4 37]
def r14_10 := [xM 45 0,
 xM 46 2,
 xL 47 (.iaddr 4 (.slot 45) (.slot 46)),
 xL 48 (.faddr 1 (.slot 47)),
 ⟨⟨.store 1 (.slot 48) (.const (.int .i64 (.ofNat 99))),none,none⟩,[]⟩]
def r14_11 := [xM 9 2,
 xL 10 (.bin .add 3 .num (.slot 9) (.const (.int .i64 (.ofNat 1)))),
 xM 2 10]
def xf14 : XFunc := ⟨(.seq (.region false r14_0)
 (.block 0 (.loop (.seq (.seq (.region false r14_1)
 (.cond (.slot 8)
 .skip
 (.exit 0)))
 (.seq (.block 1 (.seq (.seq (.region false r14_2)
 (.block 2 (.loop (.seq (.seq (.region false r14_3)
 (.cond (.slot 18)
 .skip
 (.exit 2)))
 (.seq (.block 3 (.region false r14_4))
 (.region false r14_5))))))
 (.seq (.seq (.region false r14_6)
 (.block 4 (.loop (.seq (.seq (.region false r14_7)
 (.cond (.slot 35)
 .skip
 (.exit 4)))
 (.seq (.block 5 (.region false r14_8))
 (.region false r14_9))))))
 (.region false r14_10))))
 (.region false r14_11)))))),
 []⟩
theorem xf14_ok : cmF Tryz.prog Tryz.f14 = some xf14 := by kernel_rfl
def r15_0 := [xL 4 (.mv (.const (.bool false)))]
def r15_1 := [xM 10 0,
 xL 11 (.call (.const (.func 30 [] [])) [(.slot 10)]),
 xM 5 11]
def r15_2 := [xM 12 5,
 xL 13 (.len .slice (.slot 12)),
 xM 14 1,
 xL 15 (.nilCheck (.slot 14)),
 xL 16 (.faddr 0 (.slot 15)),
 xL 17 (.load false 1 (.slot 16)),
 xL 18 (.len .slice (.slot 17)),
 xL 19 (.bin .neq 3 .num (.slot 13) (.slot 18)),
 xM 20 19,
 ⟨⟨.mv (.slot 0),some 21,some (20,false)⟩,[]⟩,
 ⟨⟨.mv (.slot 1),some 23,some (20,false)⟩,[]⟩,
 ⟨⟨.nilCheck (.slot 23),some 24,some (20,false)⟩,[]⟩,
 ⟨⟨.faddr 2 (.slot 24),some 25,some (20,false)⟩,[]⟩,
 ⟨⟨.load false 1 (.slot 25),some 26,some (20,false)⟩,[]⟩,
 ⟨⟨.call (.const (.func 31 [] [])) [(.slot 21)],some 22,some (20,false)⟩,[⟨.load false 1 (.slot 25),some 26,some (20,false)⟩]⟩,
 ⟨⟨.bin .neq 4 .bool (.slot 22) (.slot 26),some 27,some (20,false)⟩,[]⟩,
 xL 28 (.pick (.slot 20) (.const (.bool true)) (.slot 27))]
def r15_3 := [xL 4 (.mv (.const (.bool false)))]
def r15_4 := [xL 6 (.mv (.const (.int .i64 (.ofNat 0))))]
def r15_5 := [xM 29 6,
 xM 30 5,
 xL 31 (.len .slice (.slot 30)),
 xL 32 (.bin .lss 3 .num (.slot 29) (.slot 31))]
def r15_6 := [xM 36 0,
 xM 37 5,
 xM 38 6,
 xL 39 (.iaddr 1 (.slot 37) (.slot 38)),
 xL 40 (.load false 1 (.slot 39)),
 xL 41 (.call (.const (.func 32 [] [])) [(.slot 36),(.slot 40)]),
 xM 35 41,
 xL 42 (.extract (.slot 35) 0),
 xL 43 (.extract (.slot 35) 1),
 xM 7 42,
 xM 8 43]
def r15_7 := [xM 44 8,
 xL 45 (.un .not (.slot 44)),
 xM 46 45,
 ⟨⟨.mv (.slot 5),some 47,some (46,false)⟩,[]⟩,
 ⟨⟨.mv (.slot 6),some 48,some (46,false)⟩,[]⟩,
 ⟨⟨.iaddr 1 (.slot 47) (.slot 48),some 49,some (46,false)⟩,[]⟩,
 ⟨⟨.load false 1 (.slot 49),some 50,some (46,false)⟩,[]⟩,
 ⟨⟨.mv (.slot 1),some 51,some (46,false)⟩,[]⟩,
 ⟨⟨.nilCheck (.slot 51),some 52,some (46,false)⟩,[]⟩,
 ⟨⟨.faddr 0 (.slot 52),some 53,some (46,false)⟩,[]⟩,
 ⟨⟨.load false 1 (.slot 53),some 54,some (46,false)⟩,[]⟩,
 ⟨⟨.mv (.slot 6),some 55,some (46,false)⟩,[]⟩,
 ⟨⟨.iaddr 2 (.slot 54) (.slot 55),some 56,some (46,false)⟩,[]⟩,
 ⟨⟨.faddr 0 (.slot 56),some 57,some (46,false)⟩,[]⟩,
 ⟨⟨.load false 1 (.slot 57),some 58,some (46,false)⟩,[]⟩,
 ⟨⟨.bin .neq 2 .num (.slot 50) (.slot 58),some 59,some (46,false)⟩,[]⟩,
 xL 60 (.pick (.slot 46) (.const (.bool true)) (.slot 59)),
 xM 61 60,
 ⟨⟨.mv (.slot 7),some 62,some (61,false)⟩,[]⟩,
 ⟨⟨.mv (.slot 1),some 63,some (61,false)⟩,[]⟩,
 ⟨⟨.nilCheck (.slot 63),some 64,some (61,false)⟩,[]⟩,
 ⟨⟨.faddr 0 (.slot 64),some 65,some (61,false)⟩,[]⟩,
 ⟨⟨.load false 1 (.slot 65),some 66,some (61,false)⟩,[]⟩,
 ⟨⟨.mv (.slot 6),some 67,some (61,false)⟩,[]⟩,
 ⟨⟨.iaddr 2 (.slot 66) (.slot 67),some 68,some (61,false)⟩,[]⟩,
 ⟨⟨.faddr 1 (.slot 68),some 69,some (61,false)⟩,[]⟩,
 ⟨⟨.load false 1 (.slot 69),some 70,some (61,false)⟩,[]⟩,
 ⟨⟨.call (.const (.func 10 [] [])) [(.slot 62),(.slot 70)],some 71,some (61,false)⟩,[]⟩,
 ⟨⟨.un .not (.slot 71),some 72,some (61,false)⟩,[]⟩,
 xL 73 (.pick (.slot 61) (.const (.bool true)) (.slot 72))]
def r15_8 := [xL 4 (.mv (.const (.bool false)))]
def r15_9 := [xL 9 (.mv (.const (.int .i64 (.ofNat 0))))]
def r15_10 := [xM 74 9,
 xM 75 7,
 xL 76 (.len .slice (.slot 75)),
 xL 77 (.bin .lss 3 .num (.slot 74) (.slot 76))]
def r15_11 := [xM 80 7,
 xM 81 9,
 xL 82 (.iaddr 1 (.slot 80) (.slot 81)),
 ⟨⟨.store 1 (.slot 82) (.const (.int .i32 (.ofNat 9999))),none,none⟩,[]⟩]
def r15_12 := [xM 78 9,
 xL 79 (.bin .add 3 .num (.slot 78) (.const (.int .i64 (.ofNat 1)))),
 xM 9 79]
def r15_13 := [xM 83 5,
 xM 84 6,
 xL 85 (.iaddr 1 (.slot 83) (.slot 84)),
 ⟨⟨.store 1 (.slot 85) (.const (.int .i64 (.negSucc 0))),none,none⟩,[]⟩]
def r15_14 := [xM 33 6,
 xL 34 (.bin .add 3 .num (.slot 33) (.const (.int .i64 (.ofNat 1)))),
 xM 6 34]
def r15_15 := [xL 4 (.mv (.const (.bool true)))]
def xf15 : XFunc := ⟨(.seq (.region false r15_0)
 (.seq (.region false r15_1)
 (.seq (.seq (.region true r15_2)
 (.cond (.slot 28)
 (.seq (.region false r15_3)
 .ret)
 .skip))
 (.seq (.seq (.region false r15_4)
 (.block 0 (.loop (.seq (.seq (.region false r15_5)
 (.cond (.slot 32)
 .skip
 (.exit 0)))
 (.seq (.block 1 (.seq (.region false r15_6)
 (.seq (.seq (.region true r15_7)
 (.cond (.slot 73)
 (.seq (.region false r15_8)
 .ret)
 .skip))
 (.seq (.seq (.region false r15_9)
 (.block 2 (.loop (.seq (.seq (.region false r15_10)
 (.cond (.slot 77)
 .skip
 (.exit 2)))
 (.seq (.block 3 (.region false r15_11))
 (.region false r15_12))))))
 (.region false r15_13)))))
 (.region false r15_14))))))
 (.seq (.region false r15_15)
 .ret))))),
 [.tmp 4]⟩
theorem xf15_ok : cmF Tryz.prog Tryz.f15 = some xf15 := by kernel_rfl
def r16_0 := [xL 4 (.mv (.const (.int .i64 (.ofNat 0))))]
def r16_1 := [xL 5 (.mv (.const (.int .i64 (.ofNat 0))))]
def r16_2 := [xL 6 (.mv (.const (.int .i64 (.ofNat 0))))]
def r16_3 := [xM 7 6,
 xM 8 0,
 xL 9 (.len .slice (.slot 8)),
 xL 10 (.bin .lss 3 .num (.slot 7) (.slot 9)),
 xM 11 10,
 ⟨⟨.mv (.slot 5),some 12,some (11,true)⟩,[]⟩,
 ⟨⟨.mv (.slot 1),some 13,some (11,true)⟩,[]⟩,
 ⟨⟨.bin .leq 3 .num (.slot 12) (.slot 13),some 14,some (11,true)⟩,[]⟩,
 xL 15 (.pick (.slot 11) (.slot 14) (.const (.bool false)))]
def r16_4 := [xM 18 5,
 xL 19 (.bin .add 3 .num (.slot 18) (.const (.int .i64 (.ofNat 1)))),
 xM 20 0,
 xM 21 6,
 xL 22 (.iaddr 4 (.slot 20) (.slot 21)),
 xL 23 (.faddr 2 (.slot 22)),
 xL 24 (.load false 1 (.slot 23)),
 xL 25 (.len .slice (.slot 24)),
 xM 26 1,
 xL 27 (.minmax true (.slot 25) (.slot 26)),
 xL 28 (.bin .add 3 .num (.slot 19) (.slot 27)),
 xM 29 0,
 xM 30 6,
 xL 31 (.iaddr 4 (.slot 29) (.slot 30)),
 xL 32 (.faddr 3 (.slot 31)),
 xL 33 (.load false 1 (.slot 32)),
 xL 34 (.len .slice (.slot 33)),
 xM 35 1,
 xL 36 (.minmax true (.slot 34) (.slot 35)),
 xL 37 (.bin .add 3 .num (.slot 28) (.slot 36)),
 xM 5 37]
def r16_5 := [xM 16 6,
 xL 17 (.bin .add 3 .num (.slot 16) (.const (.int .i64 (.ofNat 1)))),
 xM 6 17]
def r16_6 := [xM 38 5,
 xM 4 38]
def xf16 : XFunc := ⟨(.seq (.region false r16_0)
 (.seq (.region false r16_1)
 (.seq (.seq (.region false r16_2)
 (.block 0 (.loop (.seq (.seq (.region false r16_3)
 (.cond (.slot 15)
 .skip
 (.exit 0)))
 (.seq (.block 1 (.region true r16_4))
 (.region false r16_5))))))
 (.seq (.region false r16_6)
 .ret)))),
 [.tmp 4]⟩
theorem xf16_ok : cmF Tryz.prog Tryz.f16 = some xf16 := by kernel_rfl
def r17_0 := [xL 2 (.box (.slot 0)),
 xL 4 (.mv (.const (.bool false))),
 xL 5 (.mv (.const (.int .i64 (.ofNat 0)))),
 xL 6 (.mv (.const (.int .i64 (.ofNat 0))))]
def r17_1 := [xL 12 (.load true 2 (.slot 2)),
 xL 13 (.call (.const (.func 8 [] [])) [(.slot 12)]),
 xM 11 13,
 xL 14 (.extract (.slot 11) 0),
 xL 15 (.extract (.slot 11) 1),
 xM 7 14,
 xM 8 15]
def r17_2 := [xM 16 8,
 xL 17 (.bin .neq 31 .num (.slot 16) (.const (.int .i64 (.ofNat 0))))]
def r17_3 := [xM 18 8,
 xL 4 (.mv (.const (.bool false))),
 xL 5 (.mv (.const (.int .i64 (.ofNat 0)))),
 xM 6 18]
def r17_4 := [xL 9 (.mv (.const (.int .i64 (.ofNat 0))))]
def r17_5 := [xM 19 9,
 xM 20 1,
 xL 21 (.len .slice (.slot 20)),
 xL 22 (.bin .lss 3 .num (.slot 19) (.slot 21)),
 xM 23 22,
 ⟨⟨.mv (.slot 7),some 24,some (23,true)⟩,[]⟩,
 ⟨⟨.nilCheck (.slot 24),some 25,some (23,true)⟩,[]⟩,
 ⟨⟨.faddr 3 (.slot 25),some 26,some (23,true)⟩,[]⟩,
 ⟨⟨.load false 1 (.slot 26),some 27,some (23,true)⟩,[]⟩,
 ⟨⟨.un .not (.slot 27),some 28,some (23,true)⟩,[]⟩,
 xL 29 (.pick (.slot 23) (.slot 28) (.const (.bool false)))]
def r17_6 := [xM 32 7,
 xM 33 1,
 xM 34 9,
 xL 35 (.iaddr 4 (.slot 33) (.slot 34)),
 xL 36 (.load true 4 (.slot 35)),
 xL 37 (.call (.const (.func 11 [] [])) [(.slot 32),(.slot 36)]),
 xM 10 37]
def r17_7 := [xM 38 10,
 xL 39 (.bin .neq 31 .num (.slot 38) (.const (.int .i64 (.ofNat 0))))]
def r17_8 := [xM 40 9,
 xM 41 10,
 xL 4 (.mv (.const (.bool false))),
 xM 5 40,
 xM 6 41]
def r17_9 := [xM 30 9,
 xL 31 (.bin .add 3 .num (.slot 30) (.const (.int .i64 (.ofNat 1)))),
 xM 9 31]
def r17_10 := [xM 42 7,
 xL 43 (.nilCheck (.slot 42)),
 xL 44 (.faddr 3 (.slot 43)),
 xL 45 (.load false 1 (.slot 44)),
 xM 46 9,
 xM 4 45,
 xM 5 46,
 xL 6 (.mv (.const (.int .i64 (.ofNat 0))))]
def xf17 : XFunc := ⟨(.seq (.region false r17_0)
 (.seq (.region false r17_1)
 (.seq (.seq (.region false r17_2)
 (.cond (.slot 17)
 (.seq (.region false r17_3)
 .ret)
 .skip))
 (.seq (.region false r17_4)
 (.seq (.block 0 (.loop (.seq (.seq (.region false r17_5)
 (.cond (.slot 29)
 .skip
 (.exit 0)))
 (.seq (.block 1 (.seq (.region false r17_6)
 (.seq (.region false r17_7)
 (.cond (.slot 39)
 (.seq (.region false r17_8)
 .ret)
 .skip))))
 (.region false r17_9)))))
 (.seq (.region false r17_10)
 .ret)))))),
 [.tmp 4,.tmp 5,.tmp 6]⟩
theorem xf17_ok : cmF Tryz.prog Tryz.f17 = some xf17 := by kernel_rfl
def r18_0 := [xL 0 (.alloc [(.int .i64 (.ofNat 0)),.nils])]
def r18_1 := [xL 1 (.bslice 1 [(.int .i32 (.ofNat 0)),(.int .i32 (.ofNat 0))] [(0,1,(.const (.int .i32 (.ofNat 1)))),(1,1,(.const (.int .i32 (.ofNat 2))))] 2),
 xL 2 (.bslice 1 [(.int .i32 (.ofNat 0)),(.int .i32 (.ofNat 0))] [(0,1,(.const (.int .i32 (.ofNat 1)))),(1,1,(.const (.int .i32 (.negSucc 1))))] 2),
 xL 3 (.bslice 1 [(.int .i32 (.ofNat 0)),(.int .i32 (.ofNat 0))] [(0,1,(.const (.int .i32 (.negSucc 0)))),(1,1,(.const (.int .i32 (.ofNat 2))))] 2),
 xL 4 (.bslice 1 [(.int .i32 (.ofNat 0)),(.int .i32 (.ofNat 0))] [(0,1,(.const (.int .i32 (.negSucc 0)))),(1,1,(.const (.int .i32 (.negSucc 1))))] 2),
 xL 5 (.bslice 1 [.nils,.nils,.nils,.nils] [(0,1,(.slot 1)),(1,1,(.slot 2)),(2,1,(.slot 3)),(3,1,(.slot 4))] 4),
 xL 6 (.build [(.int .i64 (.ofNat 0)),.nils] [(0,1,(.const (.int .i64 (.ofNat 2)))),(1,1,(.slot 5))]),
 ⟨⟨.store 2 (.slot 0) (.slot 6),none,none⟩,[]⟩]
def xf18 : XFunc := ⟨(.seq (.region false r18_0)
 (.seq (.region false r18_1)
 .ret)),
 [.cell 0 true 2]⟩
theorem xf18_ok : cmF Tryz.prog Tryz.f18 = some xf18 := by kernel_rfl
def r19_0 := [xL 6 (.alloc [(.int .u8 (.ofNat 0)),(.int .i64 (.ofNat 0)),.nils,.nils])]
def r19_1 := [xM 7 0,
 xM 8 1,
 xM 9 2,
 xL 10 (.build [(.int .u8 (.ofNat 0)),(.int .i64 (.ofNat 0)),.nils,.nils] [(0,1,(.const (.int .u8 (.ofNat 1)))),(1,1,(.slot 7)),(2,1,(.slot 8)),(3,1,(.slot 9))]),
 ⟨⟨.store 4 (.slot 6) (.slot 10),none,none⟩,[]⟩]
def xf19 : XFunc := ⟨(.seq (.region false r19_0)
 (.seq (.region false r19_1)
 .ret)),
 [.cell 6 true 4]⟩
theorem xf19_ok : cmF Tryz.prog Tryz.f19 = some xf19 := by kernel_rfl
end Go.Proofs.YtmkbnbpblhoekaaGreat

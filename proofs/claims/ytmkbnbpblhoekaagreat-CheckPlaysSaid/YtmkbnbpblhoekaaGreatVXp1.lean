/- Part of a proof for X's executor: what the program's functions answer. -/
import Derived.Test.YtmkbnbpblhoekaaGreatProg
import Derived.Test.YtmkbnbpblhoekaaGreatW0
import Derived.KernelRfl
namespace Go.Proofs.YtmkbnbpblhoekaaGreat
open Go.Xr
def r20_0 := [xL 1 (.box (.slot 0)),
 xL 2 (.mv (.const (.int .i64 (.ofNat 0))))]
def r20_1 := [xL 9 (.faddr 0 (.slot 1)),
 xL 10 (.load false 1 (.slot 9)),
 xL 11 (.bin .lss 3 .num (.slot 10) (.const (.int .i64 (.ofNat 0)))),
 xM 8 11]
def r20_2 := [xL 12 (.faddr 0 (.slot 1)),
 xL 13 (.load false 1 (.slot 12)),
 xL 14 (.bin .gtr 3 .num (.slot 13) (.const (.int .i64 (.ofNat 1048576)))),
 xM 8 14]
def r20_3 := [xL 2 (.mv (.const (.int .i64 (.ofNat 2))))]
def r20_4 := [xL 16 (.faddr 1 (.slot 1)),
 xL 17 (.load false 1 (.slot 16)),
 xL 18 (.len .slice (.slot 17)),
 xL 19 (.bin .gtr 3 .num (.slot 18) (.const (.int .i64 (.ofNat 1048576)))),
 xM 15 19]
def r20_5 := [xL 2 (.mv (.const (.int .i64 (.ofNat 3))))]
def r20_6 := [xL 3 (.mv (.const (.int .i64 (.ofNat 16777216))))]
def r20_7 := [xL 20 (.faddr 1 (.slot 1)),
 xL 21 (.load false 1 (.slot 20)),
 xL 22 (.len .slice (.slot 21)),
 xL 23 (.mv (.const (.int .i64 (.ofNat 0))))]
def r20_8 := [xL 24 (.bin .lss 3 .num (.slot 23) (.slot 22))]
def r20_9 := [xL 25 (.iaddr 1 (.slot 21) (.slot 23)),
 xL 26 (.load false 1 (.slot 25)),
 xM 5 26]
def r20_10 := [xM 27 5,
 xL 28 (.len .slice (.slot 27)),
 xL 29 (.mv (.const (.int .i64 (.ofNat 0))))]
def r20_11 := [xL 30 (.bin .lss 3 .num (.slot 29) (.slot 28))]
def r20_12 := [xL 31 (.iaddr 1 (.slot 27) (.slot 29)),
 xL 32 (.load false 1 (.slot 31)),
 xM 7 32]
def r20_13 := [xM 33 3,
 xL 34 (.bin .eql 3 .num (.slot 33) (.const (.int .i64 (.ofNat 0))))]
def r20_14 := [xL 2 (.mv (.const (.int .i64 (.ofNat 3))))]
def r20_15 := [xM 35 3,
 xL 36 (.bin .sub 3 .num (.slot 35) (.const (.int .i64 (.ofNat 1)))),
 xM 3 36]
def r20_16 := [xM 37 7,
 xL 38 (.bin .eql 40 .num (.slot 37) (.const (.int .i32 (.ofNat 0)))),
 xM 39 38,
 ⟨⟨.mv (.slot 7),some 40,some (39,false)⟩,[]⟩,
 ⟨⟨.faddr 0 (.slot 1),some 42,some (39,false)⟩,[]⟩,
 ⟨⟨.load false 1 (.slot 42),some 43,some (39,false)⟩,[]⟩,
 ⟨⟨.call (.const (.func 33 [] [])) [(.slot 40)],some 41,some (39,false)⟩,[⟨.load false 1 (.slot 42),some 43,some (39,false)⟩]⟩,
 ⟨⟨.bin .gtr 3 .num (.slot 41) (.slot 43),some 44,some (39,false)⟩,[]⟩,
 xL 45 (.pick (.slot 39) (.const (.bool true)) (.slot 44))]
def r20_17 := [xL 2 (.mv (.const (.int .i64 (.ofNat 4))))]
def r20_18 := [xL 46 (.bin .add 3 .num (.slot 29) (.const (.int .i64 (.ofNat 1)))),
 xM 29 46]
def r20_19 := [xL 47 (.bin .add 3 .num (.slot 23) (.const (.int .i64 (.ofNat 1)))),
 xM 23 47]
def r20_20 := [xL 2 (.mv (.const (.int .i64 (.ofNat 0))))]
def xf20 : XFunc := ⟨(.seq (.region false r20_0)
 (.seq (.block 0 (.seq (.seq (.region false r20_1)
 (.cond (.slot 8)
 .skip
 (.region false r20_2)))
 (.cond (.slot 8)
 (.seq (.region false r20_3)
 .ret)
 (.seq (.region false r20_4)
 (.cond (.slot 15)
 (.seq (.region false r20_5)
 .ret)
 .skip)))))
 (.seq (.region false r20_6)
 (.seq (.seq (.region false r20_7)
 (.block 1 (.loop (.seq (.region false r20_8)
 (.seq (.cond (.slot 24)
 .skip
 (.exit 1))
 (.seq (.block 2 (.seq (.region false r20_9)
 (.seq (.region false r20_10)
 (.block 3 (.loop (.seq (.region false r20_11)
 (.seq (.cond (.slot 30)
 .skip
 (.exit 3))
 (.seq (.block 4 (.seq (.region false r20_12)
 (.seq (.seq (.region false r20_13)
 (.cond (.slot 34)
 (.seq (.region false r20_14)
 .ret)
 .skip))
 (.seq (.region false r20_15)
 (.seq (.region true r20_16)
 (.cond (.slot 45)
 (.seq (.region false r20_17)
 .ret)
 .skip))))))
 (.region false r20_18)))))))))
 (.region false r20_19)))))))
 (.seq (.region false r20_20)
 .ret))))),
 [.tmp 2]⟩
theorem xf20_ok : cmF Tryz.prog Tryz.f20 = some xf20 := by kernel_rfl
def r21_0 := [xM 9 2,
 xL 10 (.call (.const (.func 34 [] [])) [(.slot 9)]),
 xM 8 10,
 xL 11 (.extract (.slot 8) 0),
 xL 12 (.extract (.slot 8) 1),
 xM 6 11,
 xM 7 12]
def r21_1 := [xM 13 0,
 xL 14 (.nilCheck (.slot 13)),
 xL 15 (.faddr 0 (.slot 14)),
 xL 16 (.load false 1 (.slot 15)),
 xM 17 1,
 xM 18 2,
 xM 20 6,
 xM 21 7,
 ⟨⟨.call (.const (.func 35 [] [])) [(.slot 18)],some 19,none⟩,[⟨.load false 1 (.slot 15),some 16,none⟩]⟩,
 xL 22 (.build [.nils,.nils,(.bool false)] [(0,1,(.slot 19)),(1,1,(.slot 20)),(2,1,(.slot 21))]),
 ⟨⟨.box (.slot 22),some 23,none⟩,[⟨.load false 1 (.slot 15),some 16,none⟩]⟩,
 ⟨⟨.mapup .i64 (.slot 16) (.slot 17) (.slot 23),none,none⟩,[]⟩]
def r21_2 := [xM 24 0,
 xM 25 1,
 xL 26 (.nilCheck (.slot 24)),
 xL 27 (.faddr 1 (.slot 26)),
 ⟨⟨.store 1 (.slot 27) (.slot 25),none,none⟩,[]⟩]
def r21_3 := [xM 28 0,
 xL 29 (.nilCheck (.slot 28)),
 xL 30 (.faddr 2 (.slot 29)),
 xL 31 (.load false 1 (.slot 30)),
 xM 32 2,
 xL 33 (.len .slice (.slot 32)),
 xL 34 (.bin .add 3 .num (.slot 31) (.slot 33)),
 xL 35 (.nilCheck (.slot 28)),
 xL 36 (.faddr 2 (.slot 35)),
 ⟨⟨.store 1 (.slot 36) (.slot 34),none,none⟩,[]⟩]
def r21_4 := [xM 37 0,
 xM 38 0,
 xL 39 (.nilCheck (.slot 38)),
 xL 40 (.faddr 3 (.slot 39)),
 xL 41 (.load false 1 (.slot 40)),
 xM 42 41,
 ⟨⟨.mv (.slot 2),some 43,some (42,false)⟩,[]⟩,
 ⟨⟨.len .slice (.slot 43),some 44,some (42,false)⟩,[]⟩,
 ⟨⟨.bin .eql 3 .num (.slot 44) (.const (.int .i64 (.ofNat 0))),some 45,some (42,false)⟩,[]⟩,
 xL 46 (.pick (.slot 42) (.const (.bool true)) (.slot 45)),
 xL 47 (.nilCheck (.slot 37)),
 xL 48 (.faddr 3 (.slot 47)),
 ⟨⟨.store 1 (.slot 48) (.slot 46),none,none⟩,[]⟩]
def xf21 : XFunc := ⟨(.seq (.region false r21_0)
 (.seq (.region true r21_1)
 (.seq (.region false r21_2)
 (.seq (.region false r21_3)
 (.region false r21_4))))),
 []⟩
theorem xf21_ok : cmF Tryz.prog Tryz.f21 = some xf21 := by kernel_rfl
def r22_0 := [xL 1 (.box (.slot 0)),
 xL 2 (.mv (.const (.int .i64 (.ofNat 0))))]
def r22_1 := [xL 7 (.faddr 0 (.slot 1)),
 xL 8 (.load false 1 (.slot 7)),
 xL 9 (.bin .lss 3 .num (.slot 8) (.const (.int .i64 (.ofNat 0)))),
 xM 10 9,
 ⟨⟨.faddr 0 (.slot 1),some 11,some (10,false)⟩,[]⟩,
 ⟨⟨.load false 1 (.slot 11),some 12,some (10,false)⟩,[]⟩,
 ⟨⟨.bin .gtr 3 .num (.slot 12) (.const (.int .i64 (.ofNat 1048576))),some 13,some (10,false)⟩,[]⟩,
 xL 14 (.pick (.slot 10) (.const (.bool true)) (.slot 13))]
def r22_2 := [xL 2 (.mv (.const (.int .i64 (.ofNat 2))))]
def r22_3 := [xL 15 (.faddr 1 (.slot 1)),
 xL 16 (.load false 1 (.slot 15)),
 xL 17 (.len .slice (.slot 16)),
 xL 18 (.bin .gtr 3 .num (.slot 17) (.const (.int .i64 (.ofNat 1048576))))]
def r22_4 := [xL 2 (.mv (.const (.int .i64 (.ofNat 3))))]
def r22_5 := [xL 3 (.mv (.const (.int .i64 (.ofNat 0))))]
def r22_6 := [xL 4 (.mv (.const (.int .i64 (.ofNat 0))))]
def r22_7 := [xM 19 4,
 xL 20 (.faddr 1 (.slot 1)),
 xL 21 (.load false 1 (.slot 20)),
 xL 22 (.len .slice (.slot 21)),
 xL 23 (.bin .lss 3 .num (.slot 19) (.slot 22))]
def r22_8 := [xL 5 (.mv (.const (.int .i64 (.ofNat 0))))]
def r22_9 := [xM 26 5,
 xL 27 (.faddr 1 (.slot 1)),
 xL 28 (.load false 1 (.slot 27)),
 xM 29 4,
 xL 30 (.iaddr 1 (.slot 28) (.slot 29)),
 xL 31 (.load false 1 (.slot 30)),
 xL 32 (.len .slice (.slot 31)),
 xL 33 (.bin .lss 3 .num (.slot 26) (.slot 32))]
def r22_10 := [xM 36 3,
 xL 37 (.bin .add 3 .num (.slot 36) (.const (.int .i64 (.ofNat 1)))),
 xM 3 37]
def r22_11 := [xM 38 3,
 xL 39 (.bin .gtr 3 .num (.slot 38) (.const (.int .i64 (.ofNat 16777216))))]
def r22_12 := [xL 2 (.mv (.const (.int .i64 (.ofNat 3))))]
def r22_13 := [xL 40 (.faddr 1 (.slot 1)),
 xL 41 (.load false 1 (.slot 40)),
 xM 42 4,
 xL 43 (.iaddr 1 (.slot 41) (.slot 42)),
 xL 44 (.load false 1 (.slot 43)),
 xM 45 5,
 xL 46 (.iaddr 1 (.slot 44) (.slot 45)),
 xL 47 (.load false 1 (.slot 46)),
 xM 6 47]
def r22_14 := [xM 48 6,
 xL 49 (.bin .eql 40 .num (.slot 48) (.const (.int .i32 (.ofNat 0)))),
 xM 50 49,
 ⟨⟨.mv (.slot 6),some 51,some (50,false)⟩,[]⟩,
 ⟨⟨.faddr 0 (.slot 1),some 53,some (50,false)⟩,[]⟩,
 ⟨⟨.load false 1 (.slot 53),some 54,some (50,false)⟩,[]⟩,
 ⟨⟨.call (.const (.func 36 [] [])) [(.slot 51)],some 52,some (50,false)⟩,[⟨.load false 1 (.slot 53),some 54,some (50,false)⟩]⟩,
 ⟨⟨.bin .gtr 3 .num (.slot 52) (.slot 54),some 55,some (50,false)⟩,[]⟩,
 xL 56 (.pick (.slot 50) (.const (.bool true)) (.slot 55))]
def r22_15 := [xL 2 (.mv (.const (.int .i64 (.ofNat 4))))]
def r22_16 := [xM 34 5,
 xL 35 (.bin .add 3 .num (.slot 34) (.const (.int .i64 (.ofNat 1)))),
 xM 5 35]
def r22_17 := [xM 24 4,
 xL 25 (.bin .add 3 .num (.slot 24) (.const (.int .i64 (.ofNat 1)))),
 xM 4 25]
def r22_18 := [xL 2 (.mv (.const (.int .i64 (.ofNat 0))))]
def xf22 : XFunc := ⟨(.seq (.region false r22_0)
 (.seq (.seq (.region false r22_1)
 (.cond (.slot 14)
 (.seq (.region false r22_2)
 .ret)
 .skip))
 (.seq (.seq (.region false r22_3)
 (.cond (.slot 18)
 (.seq (.region false r22_4)
 .ret)
 .skip))
 (.seq (.region false r22_5)
 (.seq (.seq (.region false r22_6)
 (.block 0 (.loop (.seq (.seq (.region false r22_7)
 (.cond (.slot 23)
 .skip
 (.exit 0)))
 (.seq (.block 1 (.seq (.region false r22_8)
 (.block 2 (.loop (.seq (.seq (.region false r22_9)
 (.cond (.slot 33)
 .skip
 (.exit 2)))
 (.seq (.block 3 (.seq (.region false r22_10)
 (.seq (.seq (.region false r22_11)
 (.cond (.slot 39)
 (.seq (.region false r22_12)
 .ret)
 .skip))
 (.seq (.region false r22_13)
 (.seq (.region true r22_14)
 (.cond (.slot 56)
 (.seq (.region false r22_15)
 .ret)
 .skip))))))
 (.region false r22_16)))))))
 (.region false r22_17))))))
 (.seq (.region false r22_18)
 .ret)))))),
 [.tmp 2]⟩
theorem xf22_ok : cmF Tryz.prog Tryz.f22 = some xf22 := by kernel_rfl
def r23_0 := [xL 6 (.mv (.const .nils))]
def r23_1 := [xM 7 6,
 xM 8 2,
 xL 9 (.append 1 4 (.slot 7) (.slot 8)),
 xM 6 9]
def r23_2 := [xM 10 0,
 xM 11 0,
 xL 12 (.nilCheck (.slot 11)),
 xL 13 (.faddr 0 (.slot 12)),
 xL 14 (.load false 1 (.slot 13)),
 xM 15 1,
 xM 16 6,
 xL 17 (.build [(.int .i64 (.ofNat 0)),.nils] [(0,1,(.slot 15)),(1,1,(.slot 16))]),
 xL 18 (.bslice 2 [(.int .i64 (.ofNat 0)),.nils] [(0,2,(.slot 17))] 1),
 xL 19 (.append 2 32 (.slot 14) (.slot 18)),
 xL 20 (.nilCheck (.slot 10)),
 xL 21 (.faddr 0 (.slot 20)),
 ⟨⟨.store 1 (.slot 21) (.slot 19),none,none⟩,[]⟩]
def r23_3 := [xM 22 0,
 xM 23 1,
 xL 24 (.nilCheck (.slot 22)),
 xL 25 (.faddr 1 (.slot 24)),
 ⟨⟨.store 1 (.slot 25) (.slot 23),none,none⟩,[]⟩]
def r23_4 := [xM 26 0,
 xM 27 0,
 xL 28 (.nilCheck (.slot 27)),
 xL 29 (.faddr 3 (.slot 28)),
 xL 30 (.load false 1 (.slot 29)),
 xM 31 2,
 xL 32 (.len .slice (.slot 31)),
 xL 33 (.bin .add 3 .num (.slot 30) (.slot 32)),
 xL 34 (.nilCheck (.slot 26)),
 xL 35 (.faddr 3 (.slot 34)),
 ⟨⟨.store 1 (.slot 35) (.slot 33),none,none⟩,[]⟩]
def r23_5 := [xM 36 0,
 xM 37 0,
 xL 38 (.nilCheck (.slot 37)),
 xL 39 (.faddr 2 (.slot 38)),
 xL 40 (.load false 1 (.slot 39)),
 xM 41 40,
 ⟨⟨.mv (.slot 2),some 42,some (41,false)⟩,[]⟩,
 ⟨⟨.len .slice (.slot 42),some 43,some (41,false)⟩,[]⟩,
 ⟨⟨.bin .eql 3 .num (.slot 43) (.const (.int .i64 (.ofNat 0))),some 44,some (41,false)⟩,[]⟩,
 xL 45 (.pick (.slot 41) (.const (.bool true)) (.slot 44)),
 xL 46 (.nilCheck (.slot 36)),
 xL 47 (.faddr 2 (.slot 46)),
 ⟨⟨.store 1 (.slot 47) (.slot 45),none,none⟩,[]⟩]
def xf23 : XFunc := ⟨(.seq (.region false r23_0)
 (.seq (.region false r23_1)
 (.seq (.region false r23_2)
 (.seq (.region false r23_3)
 (.seq (.region false r23_4)
 (.region false r23_5)))))),
 []⟩
theorem xf23_ok : cmF Tryz.prog Tryz.f23 = some xf23 := by kernel_rfl
def r24_0 := [xL 1 (.box (.slot 0)),
 xL 2 (.mv (.const (.bool false)))]
def r24_1 := [xL 7 (.faddr 2 (.slot 1)),
 xL 8 (.load false 1 (.slot 7)),
 xL 9 (.len .slice (.slot 8)),
 xL 10 (.mv (.const (.int .i64 (.ofNat 0))))]
def r24_2 := [xL 11 (.bin .lss 3 .num (.slot 10) (.slot 9))]
def r24_3 := [xL 12 (.iaddr 1 (.slot 8) (.slot 10)),
 xL 13 (.load false 1 (.slot 12)),
 xM 4 13]
def r24_4 := [xM 14 4,
 xL 15 (.bin .eql 40 .num (.slot 14) (.const (.int .i32 (.ofNat 0)))),
 xM 16 15,
 ⟨⟨.mv (.slot 4),some 17,some (16,false)⟩,[]⟩,
 ⟨⟨.bin .lss 40 .num (.slot 17) (.const (.int .i32 (.negSucc 1048575))),some 18,some (16,false)⟩,[]⟩,
 xL 19 (.pick (.slot 16) (.const (.bool true)) (.slot 18)),
 xM 20 19,
 ⟨⟨.mv (.slot 4),some 21,some (20,false)⟩,[]⟩,
 ⟨⟨.bin .gtr 40 .num (.slot 21) (.const (.int .i32 (.ofNat 1048576))),some 22,some (20,false)⟩,[]⟩,
 xL 23 (.pick (.slot 20) (.const (.bool true)) (.slot 22))]
def r24_5 := [xL 2 (.mv (.const (.bool false)))]
def r24_6 := [xL 24 (.bin .add 3 .num (.slot 10) (.const (.int .i64 (.ofNat 1)))),
 xM 10 24]
def r24_7 := [xL 25 (.faddr 3 (.slot 1)),
 xL 26 (.load false 1 (.slot 25)),
 xL 27 (.len .slice (.slot 26)),
 xL 28 (.mv (.const (.int .i64 (.ofNat 0))))]
def r24_8 := [xL 29 (.bin .lss 3 .num (.slot 28) (.slot 27))]
def r24_9 := [xL 30 (.iaddr 1 (.slot 26) (.slot 28)),
 xL 31 (.load false 1 (.slot 30)),
 xM 6 31]
def r24_10 := [xM 32 6,
 xL 33 (.bin .eql 2 .num (.slot 32) (.const (.int .i64 (.ofNat 0)))),
 xM 34 33,
 ⟨⟨.mv (.slot 6),some 35,some (34,false)⟩,[]⟩,
 ⟨⟨.bin .lss 2 .num (.slot 35) (.const (.int .i64 (.negSucc 4611686018427387902))),some 36,some (34,false)⟩,[]⟩,
 xL 37 (.pick (.slot 34) (.const (.bool true)) (.slot 36)),
 xM 38 37,
 ⟨⟨.mv (.slot 6),some 39,some (38,false)⟩,[]⟩,
 ⟨⟨.bin .gtr 2 .num (.slot 39) (.const (.int .i64 (.ofNat 4611686018427387903))),some 40,some (38,false)⟩,[]⟩,
 xL 41 (.pick (.slot 38) (.const (.bool true)) (.slot 40)),
 xM 42 41,
 ⟨⟨.mv (.slot 6),some 43,some (42,false)⟩,[]⟩,
 ⟨⟨.bin .lss 2 .num (.slot 43) (.const (.int .i64 (.ofNat 0))),some 44,some (42,false)⟩,[]⟩,
 ⟨⟨.mv (.slot 44),some 45,some (42,false)⟩,[]⟩,
 ⟨⟨.faddr 0 (.slot 1),some 46,some (45,true)⟩,[]⟩,
 ⟨⟨.load false 1 (.slot 46),some 47,some (45,true)⟩,[]⟩,
 ⟨⟨.bin .eql 5 .num (.slot 47) (.const (.int .u8 (.ofNat 2))),some 48,some (45,true)⟩,[]⟩,
 ⟨⟨.pick (.slot 45) (.slot 48) (.const (.bool false)),some 49,some (42,false)⟩,[]⟩,
 xL 50 (.pick (.slot 42) (.const (.bool true)) (.slot 49))]
def r24_11 := [xL 2 (.mv (.const (.bool false)))]
def r24_12 := [xL 51 (.bin .add 3 .num (.slot 28) (.const (.int .i64 (.ofNat 1)))),
 xM 28 51]
def r24_13 := [xL 52 (.faddr 0 (.slot 1)),
 xL 53 (.load false 1 (.slot 52))]
def r24_14 := [xL 55 (.bin .eql 5 .num (.slot 53) (.const (.int .u8 (.ofNat 1)))),
 xM 54 55]
def r24_15 := [xL 56 (.faddr 1 (.slot 1)),
 xL 57 (.load false 1 (.slot 56)),
 xL 58 (.bin .geq 2 .num (.slot 57) (.const (.int .i64 (.ofNat 1)))),
 xM 59 58,
 ⟨⟨.faddr 1 (.slot 1),some 60,some (59,true)⟩,[]⟩,
 ⟨⟨.load false 1 (.slot 60),some 61,some (59,true)⟩,[]⟩,
 ⟨⟨.bin .leq 2 .num (.slot 61) (.const (.int .i64 (.ofNat 4611686018427387903))),some 62,some (59,true)⟩,[]⟩,
 xL 63 (.pick (.slot 59) (.slot 62) (.const (.bool false))),
 xM 2 63]
def r24_16 := [xL 65 (.bin .eql 5 .num (.slot 53) (.const (.int .u8 (.ofNat 2)))),
 xM 64 65]
def r24_17 := [xL 66 (.faddr 1 (.slot 1)),
 xL 67 (.load false 1 (.slot 66)),
 xL 68 (.bin .geq 2 .num (.slot 67) (.const (.int .i64 (.ofNat 0)))),
 xM 69 68,
 ⟨⟨.faddr 1 (.slot 1),some 70,some (69,true)⟩,[]⟩,
 ⟨⟨.load false 1 (.slot 70),some 71,some (69,true)⟩,[]⟩,
 ⟨⟨.bin .leq 2 .num (.slot 71) (.const (.int .i64 (.ofNat 4611686018427387903))),some 72,some (69,true)⟩,[]⟩,
 xL 73 (.pick (.slot 69) (.slot 72) (.const (.bool false))),
 xM 74 73,
 ⟨⟨.faddr 2 (.slot 1),some 75,some (74,true)⟩,[]⟩,
 ⟨⟨.load false 1 (.slot 75),some 76,some (74,true)⟩,[]⟩,
 ⟨⟨.len .slice (.slot 76),some 77,some (74,true)⟩,[]⟩,
 ⟨⟨.bin .eql 3 .num (.slot 77) (.const (.int .i64 (.ofNat 0))),some 78,some (74,true)⟩,[]⟩,
 xL 79 (.pick (.slot 74) (.slot 78) (.const (.bool false))),
 xM 2 79]
def r24_18 := [xL 2 (.mv (.const (.bool false)))]
def xf24 : XFunc := ⟨(.seq (.region false r24_0)
 (.seq (.seq (.region false r24_1)
 (.block 0 (.loop (.seq (.region false r24_2)
 (.seq (.cond (.slot 11)
 .skip
 (.exit 0))
 (.seq (.block 1 (.seq (.region false r24_3)
 (.seq (.region false r24_4)
 (.cond (.slot 23)
 (.seq (.region false r24_5)
 .ret)
 .skip))))
 (.region false r24_6)))))))
 (.seq (.seq (.region false r24_7)
 (.block 2 (.loop (.seq (.region false r24_8)
 (.seq (.cond (.slot 29)
 .skip
 (.exit 2))
 (.seq (.block 3 (.seq (.region false r24_9)
 (.seq (.region false r24_10)
 (.cond (.slot 50)
 (.seq (.region false r24_11)
 .ret)
 .skip))))
 (.region false r24_12)))))))
 (.seq (.seq (.region false r24_13)
 (.block 4 (.seq (.region false r24_14)
 (.cond (.slot 54)
 (.seq (.region false r24_15)
 .ret)
 (.seq (.region false r24_16)
 (.cond (.slot 64)
 (.seq (.region false r24_17)
 .ret)
 .skip))))))
 (.seq (.region false r24_18)
 .ret))))),
 [.tmp 2]⟩
theorem xf24_ok : cmF Tryz.prog Tryz.f24 = some xf24 := by kernel_rfl
def r25_0 := [xL 4 (.mv (.const (.int .i64 (.ofNat 0))))]
def r25_1 := [xL 9 (.mkmap .i64),
 xM 5 9]
def r25_2 := [xM 10 1,
 xL 11 (.len .slice (.slot 10)),
 xL 12 (.mv (.const (.int .i64 (.ofNat 0))))]
def r25_3 := [xL 13 (.bin .lss 3 .num (.slot 12) (.slot 11))]
def r25_4 := [xL 14 (.iaddr 1 (.slot 10) (.slot 12)),
 xL 15 (.load false 1 (.slot 14)),
 xM 7 15]
def r25_5 := [xM 16 0,
 xL 17 (.nilCheck (.slot 16)),
 xL 18 (.faddr 0 (.slot 17)),
 xL 19 (.load false 1 (.slot 18)),
 xM 20 7,
 xL 21 (.lookup .i64 .nilp (.slot 19) (.slot 20) false),
 xL 22 (.bin .eql 72 .ptr (.slot 21) (.const .nilp)),
 xM 23 22,
 ⟨⟨.mv (.slot 5),some 24,some (23,false)⟩,[]⟩,
 ⟨⟨.mv (.slot 7),some 25,some (23,false)⟩,[]⟩,
 ⟨⟨.lookup .i64 (.bool false) (.slot 24) (.slot 25) false,some 26,some (23,false)⟩,[]⟩,
 xL 27 (.pick (.slot 23) (.const (.bool true)) (.slot 26))]
def r25_6 := [xL 4 (.mv (.const (.int .i64 (.ofNat 5))))]
def r25_7 := [xM 28 5,
 xM 29 7,
 ⟨⟨.mapup .i64 (.slot 28) (.slot 29) (.const (.bool true)),none,none⟩,[]⟩]
def r25_8 := [xL 30 (.bin .add 3 .num (.slot 12) (.const (.int .i64 (.ofNat 1)))),
 xM 12 30]
def r25_9 := [xM 31 5,
 xL 32 (.range .i64 (.slot 31))]
def r25_10 := [xL 33 (.next (.slot 32)),
 xL 34 (.extract (.slot 33) 0)]
def r25_11 := [xL 35 (.entry (.slot 32)),
 xL 36 (.extract (.slot 35) 0),
 xM 8 36]
def r25_12 := [xM 37 0,
 xL 38 (.nilCheck (.slot 37)),
 xL 39 (.faddr 2 (.slot 38)),
 xL 40 (.load false 1 (.slot 39)),
 xM 41 0,
 xL 42 (.nilCheck (.slot 41)),
 xL 43 (.faddr 0 (.slot 42)),
 xL 44 (.load false 1 (.slot 43)),
 xM 45 8,
 xL 46 (.lookup .i64 .nilp (.slot 44) (.slot 45) false),
 xL 47 (.nilCheck (.slot 46)),
 xL 48 (.faddr 0 (.slot 47)),
 xL 49 (.load false 1 (.slot 48)),
 xL 50 (.len .slice (.slot 49)),
 xL 51 (.bin .sub 3 .num (.slot 40) (.slot 50)),
 xL 52 (.nilCheck (.slot 37)),
 xL 53 (.faddr 2 (.slot 52)),
 ⟨⟨.store 1 (.slot 53) (.slot 51),none,none⟩,[]⟩]
def r25_13 := [xM 54 0,
 xL 55 (.nilCheck (.slot 54)),
 xL 56 (.faddr 0 (.slot 55)),
 xL 57 (.load false 1 (.slot 56)),
 xM 58 8,
 ⟨⟨.delete .i64 (.slot 57) (.slot 58),none,none⟩,[]⟩]
def r25_14 := [xL 4 (.mv (.const (.int .i64 (.ofNat 0))))]
def xf25 : XFunc := ⟨(.seq (.region false r25_0)
 (.seq (.region false r25_1)
 (.seq (.seq (.region false r25_2)
 (.block 0 (.loop (.seq (.region false r25_3)
 (.seq (.cond (.slot 13)
 .skip
 (.exit 0))
 (.seq (.block 1 (.seq (.region false r25_4)
 (.seq (.seq (.region false r25_5)
 (.cond (.slot 27)
 (.seq (.region false r25_6)
 .ret)
 .skip))
 (.region false r25_7))))
 (.region false r25_8)))))))
 (.seq (.seq (.region false r25_9)
 (.block 2 (.loop (.seq (.region false r25_10)
 (.seq (.cond (.slot 34)
 .skip
 (.exit 2))
 (.block 3 (.seq (.region false r25_11)
 (.seq (.region true r25_12)
 (.region false r25_13)))))))))
 (.seq (.region false r25_14)
 .ret))))),
 [.tmp 4]⟩
theorem xf25_ok : cmF Tryz.prog Tryz.f25 = some xf25 := by kernel_rfl
def r26_0 := [xL 3 (.box (.slot 0)),
 xL 6 (.mv (.const (.int .i64 (.ofNat 0))))]
def r26_1 := [xM 14 1,
 xL 15 (.call (.const (.func 34 [] [])) [(.slot 14)]),
 xM 13 15,
 xL 16 (.extract (.slot 13) 0),
 xL 17 (.extract (.slot 13) 1),
 xM 7 16,
 xM 8 17]
def r26_2 := [xM 18 8]
def r26_3 := [xL 6 (.mv (.const (.int .i64 (.ofNat 0))))]
def r26_4 := [xL 19 (.mkfunc 37 [] [(.slot 3)]),
 ⟨⟨.defer (.slot 19) [],none,none⟩,[]⟩]
def r26_5 := [xM 20 7,
 xL 21 (.len .slice (.slot 20)),
 xL 22 (.mv (.const (.int .i64 (.ofNat 0))))]
def r26_6 := [xL 23 (.bin .lss 3 .num (.slot 22) (.slot 21))]
def r26_7 := [xL 24 (.iaddr 1 (.slot 20) (.slot 22)),
 xL 25 (.load false 1 (.slot 24)),
 xM 10 25]
def r26_8 := [xL 26 (.load false 1 (.slot 3)),
 xM 27 10,
 xL 28 (.un .neg (.slot 27)),
 xL 29 (.call (.const (.func 39 [] [])) [(.slot 26),(.slot 28)])]
def r26_9 := [xL 30 (.bin .add 3 .num (.slot 22) (.const (.int .i64 (.ofNat 1)))),
 xM 22 30]
def r26_10 := [xM 32 2,
 xL 33 (.call (.const (.func 40 [] [])) [(.slot 32)]),
 xM 31 33,
 xL 34 (.extract (.slot 31) 0),
 xL 35 (.extract (.slot 31) 1),
 xM 11 34,
 xM 12 35]
def r26_11 := [xL 36 (.load false 1 (.slot 3)),
 xM 37 11,
 xL 38 (.call (.const (.func 41 [] [])) [(.slot 36),(.slot 37)])]
def r26_12 := [xL 40 (.bin .eql 81 .num (.slot 38) (.const (.int .i64 (.ofNat 1)))),
 xM 39 40]
def r26_13 := [xL 6 (.mv (.const (.int .i64 (.ofNat 0))))]
def r26_14 := [xL 42 (.bin .eql 81 .num (.slot 38) (.const (.int .i64 (.ofNat 2)))),
 xM 41 42]
def r26_15 := [xL 6 (.mv (.const (.int .i64 (.ofNat 60))))]
def r26_16 := [xM 43 1,
 xL 44 (.len .slice (.slot 43)),
 xL 45 (.bin .eql 3 .num (.slot 44) (.const (.int .i64 (.ofNat 0))))]
def r26_17 := [xL 6 (.mv (.const (.int .i64 (.ofNat 61))))]
def r26_18 := [xL 46 (.load false 1 (.slot 3)),
 xM 47 1,
 xL 48 (.iaddr 1 (.slot 47) (.const (.int .i64 (.ofNat 0)))),
 xL 49 (.load false 1 (.slot 48)),
 xM 50 12,
 xL 51 (.call (.const (.func 42 [] [])) [(.slot 46),(.slot 49),(.slot 50)]),
 xM 6 51]
def xf26 : XFunc := ⟨(.seq (.region false r26_0)
 (.seq (.region false r26_1)
 (.seq (.seq (.region false r26_2)
 (.cond (.slot 18)
 (.seq (.region false r26_3)
 .ret)
 .skip))
 (.seq (.region false r26_4)
 (.seq (.seq (.region false r26_5)
 (.block 0 (.loop (.seq (.region false r26_6)
 (.seq (.cond (.slot 23)
 .skip
 (.exit 0))
 (.seq (.block 1 (.seq (.region false r26_7)
 (.region false r26_8)))
 (.region false r26_9)))))))
 (.seq (.region false r26_10)
 (.seq (.seq (.region false r26_11)
 (.block 2 (.seq (.region false r26_12)
 (.cond (.slot 39)
 (.seq (.region false r26_13)
 .ret)
 (.seq (.region false r26_14)
 (.cond (.slot 41)
 (.seq (.region false r26_15)
 .ret)
 .skip))))))
 (.seq (.seq (.region false r26_16)
 (.cond (.slot 45)
 (.seq (.region false r26_17)
 .ret)
 .skip))
 (.seq (.region true r26_18)
 .ret))))))))),
 [.tmp 6]⟩
theorem xf26_ok : cmF Tryz.prog Tryz.f26 = some xf26 := by kernel_rfl
def r27_0 := [xL 1 (.box (.slot 0)),
 xL 2 (.mv (.const (.bool false)))]
def r27_1 := [xL 3 (.mv (.const (.int .i64 (.ofNat 0))))]
def r27_2 := [xL 7 (.faddr 0 (.slot 1)),
 xL 8 (.load false 1 (.slot 7))]
def r27_3 := [xL 10 (.bin .eql 5 .num (.slot 8) (.const (.int .u8 (.ofNat 1)))),
 xM 9 10]
def r27_4 := [xL 3 (.mv (.const (.int .i64 (.ofNat 1))))]
def r27_5 := [xL 12 (.bin .eql 5 .num (.slot 8) (.const (.int .u8 (.ofNat 2)))),
 xM 11 12]
def r27_6 := [xL 13 (.faddr 2 (.slot 1)),
 xL 14 (.load false 1 (.slot 13)),
 xL 15 (.len .slice (.slot 14)),
 xL 16 (.bin .gtr 3 .num (.slot 15) (.const (.int .i64 (.ofNat 0))))]
def r27_7 := [xL 2 (.mv (.const (.bool false)))]
def r27_8 := [xL 2 (.mv (.const (.bool false)))]
def r27_9 := [xL 17 (.faddr 1 (.slot 1)),
 xL 18 (.load false 1 (.slot 17)),
 xM 19 3,
 xL 20 (.bin .lss 2 .num (.slot 18) (.slot 19)),
 xM 21 20,
 ⟨⟨.faddr 1 (.slot 1),some 22,some (21,false)⟩,[]⟩,
 ⟨⟨.load false 1 (.slot 22),some 23,some (21,false)⟩,[]⟩,
 ⟨⟨.bin .gtr 2 .num (.slot 23) (.const (.int .i64 (.ofNat 4611686018427387903))),some 24,some (21,false)⟩,[]⟩,
 xL 25 (.pick (.slot 21) (.const (.bool true)) (.slot 24))]
def r27_10 := [xL 2 (.mv (.const (.bool false)))]
def r27_11 := [xL 4 (.mv (.const (.int .i64 (.ofNat 0))))]
def r27_12 := [xM 26 4,
 xL 27 (.faddr 2 (.slot 1)),
 xL 28 (.load false 1 (.slot 27)),
 xL 29 (.len .slice (.slot 28)),
 xL 30 (.bin .lss 3 .num (.slot 26) (.slot 29))]
def r27_13 := [xL 33 (.faddr 2 (.slot 1)),
 xL 34 (.load false 1 (.slot 33)),
 xM 35 4,
 xL 36 (.iaddr 1 (.slot 34) (.slot 35)),
 xL 37 (.load false 1 (.slot 36)),
 xL 38 (.call (.const (.func 43 [] [])) [(.slot 37)]),
 xL 39 (.un .not (.slot 38))]
def r27_14 := [xL 2 (.mv (.const (.bool false)))]
def r27_15 := [xM 31 4,
 xL 32 (.bin .add 3 .num (.slot 31) (.const (.int .i64 (.ofNat 1)))),
 xM 4 32]
def r27_16 := [xL 5 (.mv (.const (.int .i64 (.ofNat 0))))]
def r27_17 := [xM 40 5,
 xL 41 (.faddr 3 (.slot 1)),
 xL 42 (.load false 1 (.slot 41)),
 xL 43 (.len .slice (.slot 42)),
 xL 44 (.bin .lss 3 .num (.slot 40) (.slot 43))]
def r27_18 := [xL 47 (.faddr 3 (.slot 1)),
 xL 48 (.load false 1 (.slot 47)),
 xM 49 5,
 xL 50 (.iaddr 1 (.slot 48) (.slot 49)),
 xL 51 (.load false 1 (.slot 50)),
 xM 6 51]
def r27_19 := [xM 52 6,
 xL 53 (.bin .eql 2 .num (.slot 52) (.const (.int .i64 (.ofNat 0)))),
 xM 54 53,
 ⟨⟨.mv (.slot 6),some 55,some (54,false)⟩,[]⟩,
 ⟨⟨.bin .gtr 2 .num (.slot 55) (.const (.int .i64 (.ofNat 4611686018427387903))),some 56,some (54,false)⟩,[]⟩,
 xL 57 (.pick (.slot 54) (.const (.bool true)) (.slot 56)),
 xM 58 57,
 ⟨⟨.mv (.slot 6),some 59,some (58,false)⟩,[]⟩,
 ⟨⟨.bin .lss 2 .num (.slot 59) (.const (.int .i64 (.negSucc 4611686018427387902))),some 60,some (58,false)⟩,[]⟩,
 xL 61 (.pick (.slot 58) (.const (.bool true)) (.slot 60)),
 xM 62 61,
 ⟨⟨.mv (.slot 6),some 63,some (62,false)⟩,[]⟩,
 ⟨⟨.bin .lss 2 .num (.slot 63) (.const (.int .i64 (.ofNat 0))),some 64,some (62,false)⟩,[]⟩,
 ⟨⟨.mv (.slot 64),some 65,some (62,false)⟩,[]⟩,
 ⟨⟨.faddr 0 (.slot 1),some 66,some (65,true)⟩,[]⟩,
 ⟨⟨.load false 1 (.slot 66),some 67,some (65,true)⟩,[]⟩,
 ⟨⟨.bin .eql 5 .num (.slot 67) (.const (.int .u8 (.ofNat 2))),some 68,some (65,true)⟩,[]⟩,
 ⟨⟨.pick (.slot 65) (.slot 68) (.const (.bool false)),some 69,some (62,false)⟩,[]⟩,
 xL 70 (.pick (.slot 62) (.const (.bool true)) (.slot 69))]
def r27_20 := [xL 2 (.mv (.const (.bool false)))]
def r27_21 := [xM 45 5,
 xL 46 (.bin .add 3 .num (.slot 45) (.const (.int .i64 (.ofNat 1)))),
 xM 5 46]
def r27_22 := [xL 2 (.mv (.const (.bool true)))]
def xf27 : XFunc := ⟨(.seq (.region false r27_0)
 (.seq (.region false r27_1)
 (.seq (.seq (.region false r27_2)
 (.block 0 (.seq (.region false r27_3)
 (.cond (.slot 9)
 (.region false r27_4)
 (.seq (.region false r27_5)
 (.cond (.slot 11)
 (.seq (.region false r27_6)
 (.cond (.slot 16)
 (.seq (.region false r27_7)
 .ret)
 .skip))
 (.seq (.region false r27_8)
 .ret)))))))
 (.seq (.seq (.region false r27_9)
 (.cond (.slot 25)
 (.seq (.region false r27_10)
 .ret)
 .skip))
 (.seq (.seq (.region false r27_11)
 (.block 1 (.loop (.seq (.seq (.region false r27_12)
 (.cond (.slot 30)
 .skip
 (.exit 1)))
 (.seq (.block 2 (.seq (.region false r27_13)
 (.cond (.slot 39)
 (.seq (.region false r27_14)
 .ret)
 .skip)))
 (.region false r27_15))))))
 (.seq (.seq (.region false r27_16)
 (.block 3 (.loop (.seq (.seq (.region false r27_17)
 (.cond (.slot 44)
 .skip
 (.exit 3)))
 (.seq (.block 4 (.seq (.region false r27_18)
 (.seq (.region false r27_19)
 (.cond (.slot 70)
 (.seq (.region false r27_20)
 .ret)
 .skip))))
 (.region false r27_21))))))
 (.seq (.region false r27_22)
 .ret))))))),
 [.tmp 2]⟩
theorem xf27_ok : cmF Tryz.prog Tryz.f27 = some xf27 := by kernel_rfl
def r28_0 := [xL 4 (.mv (.const (.int .i64 (.ofNat 0))))]
def r28_1 := [xL 5 (.mv (.const (.int .i64 (.ofNat 0))))]
def r28_2 := [xM 10 5,
 xM 11 1,
 xL 12 (.len .slice (.slot 11)),
 xL 13 (.bin .lss 3 .num (.slot 10) (.slot 12))]
def r28_3 := [xM 16 0,
 xM 17 1,
 xM 18 5,
 xL 19 (.iaddr 1 (.slot 17) (.slot 18)),
 xL 20 (.load false 1 (.slot 19)),
 xL 21 (.call (.const (.func 44 [] [])) [(.slot 16),(.slot 20)]),
 xL 22 (.bin .lss 3 .num (.slot 21) (.const (.int .i64 (.ofNat 0))))]
def r28_4 := [xL 4 (.mv (.const (.int .i64 (.ofNat 5))))]
def r28_5 := [xL 6 (.mv (.const (.int .i64 (.ofNat 0))))]
def r28_6 := [xM 23 6,
 xM 24 5,
 xL 25 (.bin .lss 3 .num (.slot 23) (.slot 24))]
def r28_7 := [xM 28 1,
 xM 29 6,
 xL 30 (.iaddr 1 (.slot 28) (.slot 29)),
 xL 31 (.load false 1 (.slot 30)),
 xM 32 1,
 xM 33 5,
 xL 34 (.iaddr 1 (.slot 32) (.slot 33)),
 xL 35 (.load false 1 (.slot 34)),
 xL 36 (.bin .eql 2 .num (.slot 31) (.slot 35))]
def r28_8 := [xL 4 (.mv (.const (.int .i64 (.ofNat 5))))]
def r28_9 := [xM 26 6,
 xL 27 (.bin .add 3 .num (.slot 26) (.const (.int .i64 (.ofNat 1)))),
 xM 6 27]
def r28_10 := [xM 14 5,
 xL 15 (.bin .add 3 .num (.slot 14) (.const (.int .i64 (.ofNat 1)))),
 xM 5 15]
def r28_11 := [xL 7 (.mv (.const (.int .i64 (.ofNat 0))))]
def r28_12 := [xM 37 7,
 xM 38 1,
 xL 39 (.len .slice (.slot 38)),
 xL 40 (.bin .lss 3 .num (.slot 37) (.slot 39))]
def r28_13 := [xM 43 0,
 xM 44 1,
 xM 45 7,
 xL 46 (.iaddr 1 (.slot 44) (.slot 45)),
 xL 47 (.load false 1 (.slot 46)),
 xL 48 (.call (.const (.func 44 [] [])) [(.slot 43),(.slot 47)]),
 xM 8 48]
def r28_14 := [xM 49 0,
 xM 50 0,
 xL 51 (.nilCheck (.slot 50)),
 xL 52 (.faddr 3 (.slot 51)),
 xL 53 (.load false 1 (.slot 52)),
 xM 54 0,
 xL 55 (.nilCheck (.slot 54)),
 xL 56 (.faddr 0 (.slot 55)),
 xL 57 (.load false 1 (.slot 56)),
 xM 58 8,
 xL 59 (.iaddr 2 (.slot 57) (.slot 58)),
 xL 60 (.faddr 1 (.slot 59)),
 xL 61 (.load false 1 (.slot 60)),
 xL 62 (.len .slice (.slot 61)),
 xL 63 (.bin .sub 3 .num (.slot 53) (.slot 62)),
 xL 64 (.nilCheck (.slot 49)),
 xL 65 (.faddr 3 (.slot 64)),
 ⟨⟨.store 1 (.slot 65) (.slot 63),none,none⟩,[]⟩]
def r28_15 := [xL 9 (.mv (.const .nils))]
def r28_16 := [xM 66 9,
 xM 67 0,
 xL 68 (.nilCheck (.slot 67)),
 xL 69 (.faddr 0 (.slot 68)),
 xL 70 (.load false 1 (.slot 69)),
 xM 71 8,
 xL 72 (.slc 2 (.slot 70) none (some (.slot 71)) none),
 xL 73 (.append 2 32 (.slot 66) (.slot 72)),
 xM 9 73]
def r28_17 := [xM 74 9,
 xM 75 0,
 xL 76 (.nilCheck (.slot 75)),
 xL 77 (.faddr 0 (.slot 76)),
 xL 78 (.load false 1 (.slot 77)),
 xM 79 8,
 xL 80 (.bin .add 3 .num (.slot 79) (.const (.int .i64 (.ofNat 1)))),
 xL 81 (.slc 2 (.slot 78) (some (.slot 80)) none none),
 xL 82 (.append 2 32 (.slot 74) (.slot 81)),
 xM 9 82]
def r28_18 := [xM 83 0,
 xM 84 9,
 xL 85 (.nilCheck (.slot 83)),
 xL 86 (.faddr 0 (.slot 85)),
 ⟨⟨.store 1 (.slot 86) (.slot 84),none,none⟩,[]⟩]
def r28_19 := [xM 41 7,
 xL 42 (.bin .add 3 .num (.slot 41) (.const (.int .i64 (.ofNat 1)))),
 xM 7 42]
def r28_20 := [xL 4 (.mv (.const (.int .i64 (.ofNat 0))))]
def xf28 : XFunc := ⟨(.seq (.region false r28_0)
 (.seq (.seq (.region false r28_1)
 (.block 0 (.loop (.seq (.seq (.region false r28_2)
 (.cond (.slot 13)
 .skip
 (.exit 0)))
 (.seq (.block 1 (.seq (.seq (.region false r28_3)
 (.cond (.slot 22)
 (.seq (.region false r28_4)
 .ret)
 .skip))
 (.seq (.region false r28_5)
 (.block 2 (.loop (.seq (.seq (.region false r28_6)
 (.cond (.slot 25)
 .skip
 (.exit 2)))
 (.seq (.block 3 (.seq (.region true r28_7)
 (.cond (.slot 36)
 (.seq (.region false r28_8)
 .ret)
 .skip)))
 (.region false r28_9))))))))
 (.region false r28_10))))))
 (.seq (.seq (.region false r28_11)
 (.block 4 (.loop (.seq (.seq (.region false r28_12)
 (.cond (.slot 40)
 .skip
 (.exit 4)))
 (.seq (.block 5 (.seq (.region false r28_13)
 (.seq (.region true r28_14)
 (.seq (.region false r28_15)
 (.seq (.region false r28_16)
 (.seq (.region false r28_17)
 (.region false r28_18)))))))
 (.region false r28_19))))))
 (.seq (.region false r28_20)
 .ret)))),
 [.tmp 4]⟩
theorem xf28_ok : cmF Tryz.prog Tryz.f28 = some xf28 := by kernel_rfl
def r29_0 := [xL 6 (.mv (.const (.int .i64 (.ofNat 0))))]
def r29_1 := [xM 13 1,
 xL 14 (.call (.const (.func 45 [] [])) [(.slot 13)])]
def r29_2 := [xL 6 (.mv (.const (.int .i64 (.ofNat 0))))]
def r29_3 := [xL 7 (.mv (.const .nils))]
def r29_4 := [xL 8 (.mv (.const (.int .i64 (.ofNat 0))))]
def r29_5 := [xM 15 8,
 xM 16 1,
 xL 17 (.len .slice (.slot 16)),
 xL 18 (.bin .lss 3 .num (.slot 15) (.slot 17))]
def r29_6 := [xM 21 7,
 xM 22 1,
 xM 23 8,
 xL 24 (.iaddr 1 (.slot 22) (.slot 23)),
 xL 25 (.load false 1 (.slot 24)),
 xL 26 (.un .neg (.slot 25)),
 xL 27 (.bslice 1 [(.int .i32 (.ofNat 0))] [(0,1,(.slot 26))] 1),
 xL 28 (.append 1 4 (.slot 21) (.slot 27)),
 xM 7 28]
def r29_7 := [xM 19 8,
 xL 20 (.bin .add 3 .num (.slot 19) (.const (.int .i64 (.ofNat 1)))),
 xM 8 20]
def r29_8 := [xM 29 2,
 xL 30 (.call (.const (.func 46 [] [])) [(.slot 29)]),
 xM 9 30]
def r29_9 := [xM 32 0,
 xM 33 7,
 xM 34 2,
 xM 35 9,
 xL 36 (.slc 1 (.slot 34) none (some (.slot 35)) none),
 xL 37 (.call (.const (.func 47 [] [])) [(.slot 32),(.slot 33),(.slot 36)]),
 xM 31 37,
 xL 38 (.extract (.slot 31) 0),
 xL 39 (.extract (.slot 31) 1),
 xL 40 (.extract (.slot 31) 2),
 xM 10 38,
 xM 11 39,
 xM 12 40]
def r29_10 := [xM 42 12,
 xM 41 42]
def r29_11 := [xL 6 (.mv (.const (.int .i64 (.ofNat 60))))]
def r29_12 := [xM 44 11,
 xM 43 44]
def r29_13 := [xL 6 (.mv (.const (.int .i64 (.ofNat 0))))]
def r29_14 := [xM 46 1,
 xL 47 (.len .slice (.slot 46)),
 xL 48 (.bin .eql 3 .num (.slot 47) (.const (.int .i64 (.ofNat 0)))),
 xM 49 48,
 ⟨⟨.mv (.slot 9),some 50,some (49,true)⟩,[]⟩,
 ⟨⟨.mv (.slot 2),some 51,some (49,true)⟩,[]⟩,
 ⟨⟨.len .slice (.slot 51),some 52,some (49,true)⟩,[]⟩,
 ⟨⟨.bin .eql 3 .num (.slot 50) (.slot 52),some 53,some (49,true)⟩,[]⟩,
 xL 54 (.pick (.slot 49) (.slot 53) (.const (.bool false))),
 xM 45 54]
def r29_15 := [xL 6 (.mv (.const (.int .i64 (.ofNat 61))))]
def r29_16 := [xM 55 0,
 xM 56 1,
 xM 57 10,
 xM 58 2,
 xM 59 9,
 xL 60 (.slc 1 (.slot 58) (some (.slot 59)) none none),
 xL 61 (.call (.const (.func 48 [] [])) [(.slot 55),(.slot 56),(.slot 57),(.slot 60)]),
 xM 6 61]
def xf29 : XFunc := ⟨(.seq (.region false r29_0)
 (.seq (.seq (.region false r29_1)
 (.cond (.slot 14)
 (.seq (.region false r29_2)
 .ret)
 .skip))
 (.seq (.region false r29_3)
 (.seq (.seq (.region false r29_4)
 (.block 0 (.loop (.seq (.seq (.region false r29_5)
 (.cond (.slot 18)
 .skip
 (.exit 0)))
 (.seq (.block 1 (.region false r29_6))
 (.region false r29_7))))))
 (.seq (.region false r29_8)
 (.seq (.region false r29_9)
 (.seq (.block 2 (.seq (.region false r29_10)
 (.cond (.slot 41)
 (.seq (.region false r29_11)
 .ret)
 (.seq (.region false r29_12)
 (.cond (.slot 43)
 (.seq (.region false r29_13)
 .ret)
 (.seq (.region false r29_14)
 (.cond (.slot 45)
 (.seq (.region false r29_15)
 .ret)
 .skip)))))))
 (.seq (.region false r29_16)
 .ret)))))))),
 [.tmp 6]⟩
theorem xf29_ok : cmF Tryz.prog Tryz.f29 = some xf29 := by kernel_rfl
def r30_0 := [xL 2 (.mv (.const .nils))]
def r30_1 := [xM 3 0,
 xL 4 (.bin .eql 30 .ptr (.slot 3) (.const .nilp))]
def r30_2 := [xL 2 (.mv (.const .nils))]
def r30_3 := [xM 5 0,
 xL 6 (.nilCheck (.slot 5)),
 xL 7 (.faddr 0 (.slot 6)),
 xL 8 (.load false 1 (.slot 7)),
 xL 9 (.call (.const (.func 50 [] [])) [(.slot 8)]),
 xL 10 (.call (.const (.func 49 [] [])) [(.slot 9)]),
 xM 2 10]
def xf30 : XFunc := ⟨(.seq (.region false r30_0)
 (.seq (.seq (.region false r30_1)
 (.cond (.slot 4)
 (.seq (.region false r30_2)
 .ret)
 .skip))
 (.seq (.region false r30_3)
 .ret))),
 [.tmp 2]⟩
theorem xf30_ok : cmF Tryz.prog Tryz.f30 = some xf30 := by kernel_rfl
def r31_0 := [xL 2 (.mv (.const (.bool false)))]
def r31_1 := [xM 3 0,
 xL 4 (.bin .neq 30 .ptr (.slot 3) (.const .nilp)),
 xM 5 4,
 ⟨⟨.mv (.slot 0),some 6,some (5,true)⟩,[]⟩,
 ⟨⟨.nilCheck (.slot 6),some 7,some (5,true)⟩,[]⟩,
 ⟨⟨.faddr 3 (.slot 7),some 8,some (5,true)⟩,[]⟩,
 ⟨⟨.load false 1 (.slot 8),some 9,some (5,true)⟩,[]⟩,
 xL 10 (.pick (.slot 5) (.slot 9) (.const (.bool false))),
 xM 2 10]
def xf31 : XFunc := ⟨(.seq (.region false r31_0)
 (.seq (.region false r31_1)
 .ret)),
 [.tmp 2]⟩
theorem xf31_ok : cmF Tryz.prog Tryz.f31 = some xf31 := by kernel_rfl
def r32_0 := [xL 4 (.mv (.const .nils)),
 xL 5 (.mv (.const (.bool false)))]
def r32_1 := [xM 6 0,
 xL 7 (.bin .eql 30 .ptr (.slot 6) (.const .nilp)),
 xM 8 7,
 ⟨⟨.mv (.slot 0),some 9,some (8,false)⟩,[]⟩,
 ⟨⟨.nilCheck (.slot 9),some 10,some (8,false)⟩,[]⟩,
 ⟨⟨.faddr 0 (.slot 10),some 11,some (8,false)⟩,[]⟩,
 ⟨⟨.load false 1 (.slot 11),some 12,some (8,false)⟩,[]⟩,
 ⟨⟨.mv (.slot 1),some 13,some (8,false)⟩,[]⟩,
 ⟨⟨.lookup .i64 .nilp (.slot 12) (.slot 13) false,some 14,some (8,false)⟩,[]⟩,
 ⟨⟨.bin .eql 72 .ptr (.slot 14) (.const .nilp),some 15,some (8,false)⟩,[]⟩,
 xL 16 (.pick (.slot 8) (.const (.bool true)) (.slot 15))]
def r32_2 := [xL 4 (.mv (.const .nils)),
 xL 5 (.mv (.const (.bool false)))]
def r32_3 := [xM 17 0,
 xL 18 (.nilCheck (.slot 17)),
 xL 19 (.faddr 0 (.slot 18)),
 xL 20 (.load false 1 (.slot 19)),
 xM 21 1,
 xL 22 (.lookup .i64 .nilp (.slot 20) (.slot 21) false),
 xL 23 (.nilCheck (.slot 22)),
 xL 24 (.faddr 0 (.slot 23)),
 xL 25 (.load false 1 (.slot 24)),
 xL 26 (.call (.const (.func 35 [] [])) [(.slot 25)]),
 xM 4 26,
 xL 5 (.mv (.const (.bool true)))]
def xf32 : XFunc := ⟨(.seq (.region false r32_0)
 (.seq (.seq (.region false r32_1)
 (.cond (.slot 16)
 (.seq (.region false r32_2)
 .ret)
 .skip))
 (.seq (.region false r32_3)
 .ret))),
 [.tmp 4,.tmp 5]⟩
theorem xf32_ok : cmF Tryz.prog Tryz.f32 = some xf32 := by kernel_rfl
def r33_0 := [xL 2 (.mv (.const (.int .i64 (.ofNat 0))))]
def r33_1 := [xM 3 0,
 xL 4 (.call (.const (.func 51 [] [])) [(.slot 3)]),
 xM 2 4]
def xf33 : XFunc := ⟨(.seq (.region false r33_0)
 (.seq (.region false r33_1)
 .ret)),
 [.tmp 2]⟩
theorem xf33_ok : cmF Tryz.prog Tryz.f33 = some xf33 := by kernel_rfl
def r34_0 := [xL 2 (.mv (.const .nils)),
 xL 3 (.mv (.const (.bool false)))]
def r34_1 := [xM 7 0,
 xL 8 (.call (.const (.func 35 [] [])) [(.slot 7)]),
 xM 4 8]
def r34_2 := [xM 9 4,
 xL 10 (.call (.const (.func 52 [] [])) [(.slot 9),(.const (.func 53 [] []))])]
def r34_3 := [xM 11 4,
 xL 12 (.call (.const (.func 54 [] [])) [(.slot 11)]),
 xM 4 12]
def r34_4 := [xL 5 (.mv (.const (.bool false)))]
def r34_5 := [xM 13 4,
 xL 14 (.len .slice (.slot 13)),
 xL 15 (.mv (.const (.int .i64 (.ofNat 0))))]
def r34_6 := [xL 16 (.bin .lss 3 .num (.slot 15) (.slot 14))]
def r34_7 := [xM 17 15,
 xM 6 17]
def r34_8 := [xM 18 5,
 xM 19 18,
 ⟨⟨.mv (.slot 6),some 20,some (19,false)⟩,[]⟩,
 ⟨⟨.bin .gtr 3 .num (.slot 20) (.const (.int .i64 (.ofNat 0))),some 21,some (19,false)⟩,[]⟩,
 ⟨⟨.mv (.slot 21),some 22,some (19,false)⟩,[]⟩,
 ⟨⟨.mv (.slot 4),some 23,some (22,true)⟩,[]⟩,
 ⟨⟨.mv (.slot 6),some 24,some (22,true)⟩,[]⟩,
 ⟨⟨.iaddr 1 (.slot 23) (.slot 24),some 25,some (22,true)⟩,[]⟩,
 ⟨⟨.load false 1 (.slot 25),some 26,some (22,true)⟩,[]⟩,
 ⟨⟨.bin .gtr 40 .num (.slot 26) (.const (.int .i32 (.ofNat 0))),some 27,some (22,true)⟩,[]⟩,
 ⟨⟨.pick (.slot 22) (.slot 27) (.const (.bool false)),some 28,some (19,false)⟩,[]⟩,
 ⟨⟨.mv (.slot 28),some 29,some (19,false)⟩,[]⟩,
 ⟨⟨.mv (.slot 4),some 30,some (29,true)⟩,[]⟩,
 ⟨⟨.mv (.slot 6),some 31,some (29,true)⟩,[]⟩,
 ⟨⟨.iaddr 1 (.slot 30) (.slot 31),some 32,some (29,true)⟩,[]⟩,
 ⟨⟨.load false 1 (.slot 32),some 33,some (29,true)⟩,[]⟩,
 ⟨⟨.mv (.slot 4),some 34,some (29,true)⟩,[]⟩,
 ⟨⟨.mv (.slot 6),some 35,some (29,true)⟩,[]⟩,
 ⟨⟨.bin .sub 3 .num (.slot 35) (.const (.int .i64 (.ofNat 1))),some 36,some (29,true)⟩,[]⟩,
 ⟨⟨.iaddr 1 (.slot 34) (.slot 36),some 37,some (29,true)⟩,[]⟩,
 ⟨⟨.load false 1 (.slot 37),some 38,some (29,true)⟩,[]⟩,
 ⟨⟨.un .neg (.slot 38),some 39,some (29,true)⟩,[]⟩,
 ⟨⟨.bin .eql 40 .num (.slot 33) (.slot 39),some 40,some (29,true)⟩,[]⟩,
 ⟨⟨.pick (.slot 29) (.slot 40) (.const (.bool false)),some 41,some (19,false)⟩,[]⟩,
 xL 42 (.pick (.slot 19) (.const (.bool true)) (.slot 41)),
 xM 5 42]
def r34_9 := [xL 43 (.bin .add 3 .num (.slot 15) (.const (.int .i64 (.ofNat 1)))),
 xM 15 43]
def r34_10 := [xM 44 4,
 xL 45 (.call (.const (.func 55 [] [])) [(.slot 44)]),
 xM 46 5,
 xM 2 45,
 xM 3 46]
def xf34 : XFunc := ⟨(.seq (.region false r34_0)
 (.seq (.region false r34_1)
 (.seq (.region false r34_2)
 (.seq (.region false r34_3)
 (.seq (.region false r34_4)
 (.seq (.seq (.region false r34_5)
 (.block 0 (.loop (.seq (.region false r34_6)
 (.seq (.cond (.slot 16)
 .skip
 (.exit 0))
 (.seq (.block 1 (.seq (.region false r34_7)
 (.region true r34_8)))
 (.region false r34_9)))))))
 (.seq (.region false r34_10)
 .ret))))))),
 [.tmp 2,.tmp 3]⟩
theorem xf34_ok : cmF Tryz.prog Tryz.f34 = some xf34 := by kernel_rfl
def r35_0 := [xL 2 (.mv (.const .nils))]
def r35_1 := [xM 3 0,
 xL 4 (.bin .eql 39 .slice (.slot 3) (.const .nils))]
def r35_2 := [xL 2 (.mv (.const .nils))]
def r35_3 := [xL 5 (.bslice 1 [] [] 0),
 xM 6 0,
 xL 7 (.append 1 4 (.slot 5) (.slot 6)),
 xM 2 7]
def xf35 : XFunc := ⟨(.seq (.region false r35_0)
 (.seq (.seq (.region false r35_1)
 (.cond (.slot 4)
 (.seq (.region false r35_2)
 .ret)
 .skip))
 (.seq (.region false r35_3)
 .ret))),
 [.tmp 2]⟩
theorem xf35_ok : cmF Tryz.prog Tryz.f35 = some xf35 := by kernel_rfl
def r36_0 := [xL 2 (.mv (.const (.int .i64 (.ofNat 0))))]
def r36_1 := [xM 3 0,
 xL 4 (.bin .lss 40 .num (.slot 3) (.const (.int .i32 (.ofNat 0))))]
def r36_2 := [xM 5 0,
 xL 6 (.conv .i64 (.slot 5)),
 xL 7 (.un .neg (.slot 6)),
 xM 2 7]
def r36_3 := [xM 8 0,
 xL 9 (.conv .i64 (.slot 8)),
 xM 2 9]
def xf36 : XFunc := ⟨(.seq (.region false r36_0)
 (.seq (.seq (.region false r36_1)
 (.cond (.slot 4)
 (.seq (.region false r36_2)
 .ret)
 .skip))
 (.seq (.region false r36_3)
 .ret))),
 [.tmp 2]⟩
theorem xf36_ok : cmF Tryz.prog Tryz.f36 = some xf36 := by kernel_rfl
def r37_0 := [xL 1 (.load false 1 (.slot 0)),
 xL 2 (.call (.const (.func 38 [] [])) [(.slot 1),(.const (.int .i64 (.ofNat 0)))])]
def xf37 : XFunc := ⟨(.region false r37_0),
 []⟩
theorem xf37_ok : cmF Tryz.prog Tryz.f37 = some xf37 := by kernel_rfl
def r38_0 := [xM 6 0,
 xL 7 (.nilCheck (.slot 6)),
 xL 8 (.faddr 5 (.slot 7)),
 xL 9 (.load false 1 (.slot 8)),
 xM 10 1,
 xL 11 (.slc 1 (.slot 9) (some (.slot 10)) none none),
 xL 12 (.len .slice (.slot 11)),
 xL 13 (.mv (.const (.int .i64 (.ofNat 0))))]
def r38_1 := [xL 14 (.bin .lss 3 .num (.slot 13) (.slot 12))]
def r38_2 := [xL 15 (.iaddr 1 (.slot 11) (.slot 13)),
 xL 16 (.load false 1 (.slot 15)),
 xM 5 16]
def r38_3 := [xM 17 0,
 xL 18 (.nilCheck (.slot 17)),
 xL 19 (.faddr 4 (.slot 18)),
 xL 20 (.load false 1 (.slot 19)),
 xM 21 5,
 ⟨⟨.call (.const (.func 33 [] [])) [(.slot 21)],some 22,none⟩,[⟨.load false 1 (.slot 19),some 20,none⟩]⟩,
 xL 23 (.iaddr 1 (.slot 20) (.slot 22)),
 ⟨⟨.store 1 (.slot 23) (.const (.int .i8 (.ofNat 0))),none,none⟩,[]⟩]
def r38_4 := [xL 24 (.bin .add 3 .num (.slot 13) (.const (.int .i64 (.ofNat 1)))),
 xM 13 24]
def r38_5 := [xM 25 0,
 xM 26 0,
 xL 27 (.nilCheck (.slot 26)),
 xL 28 (.faddr 5 (.slot 27)),
 xL 29 (.load false 1 (.slot 28)),
 xM 30 1,
 xL 31 (.slc 1 (.slot 29) none (some (.slot 30)) none),
 xL 32 (.nilCheck (.slot 25)),
 xL 33 (.faddr 5 (.slot 32)),
 ⟨⟨.store 1 (.slot 33) (.slot 31),none,none⟩,[]⟩]
def xf38 : XFunc := ⟨(.seq (.seq (.region false r38_0)
 (.block 0 (.loop (.seq (.region false r38_1)
 (.seq (.cond (.slot 14)
 .skip
 (.exit 0))
 (.seq (.block 1 (.seq (.region false r38_2)
 (.region true r38_3)))
 (.region false r38_4)))))))
 (.region false r38_5)),
 []⟩
theorem xf38_ok : cmF Tryz.prog Tryz.f38 = some xf38 := by kernel_rfl
end Go.Proofs.YtmkbnbpblhoekaaGreat

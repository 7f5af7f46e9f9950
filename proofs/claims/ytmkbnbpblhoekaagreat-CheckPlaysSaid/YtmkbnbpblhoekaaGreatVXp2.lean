/- Part of a proof for X's executor: what the program's functions answer. -/
import Derived.Test.YtmkbnbpblhoekaaGreatProg
import Derived.Test.YtmkbnbpblhoekaaGreatW0
import Derived.KernelRfl
namespace Go.Proofs.YtmkbnbpblhoekaaGreat
open Go.Xr
def r39_0 := [xM 5 1,
 xL 6 (.call (.const (.func 33 [] [])) [(.slot 5)]),
 xM 4 6]
def r39_1 := [xM 7 4,
 xM 8 0,
 xL 9 (.nilCheck (.slot 8)),
 xL 10 (.faddr 4 (.slot 9)),
 xL 11 (.load false 1 (.slot 10)),
 xL 12 (.len .slice (.slot 11)),
 xL 13 (.bin .geq 3 .num (.slot 7) (.slot 12))]
def r39_2 := [xM 14 0,
 xM 15 0,
 xL 16 (.nilCheck (.slot 15)),
 xL 17 (.faddr 4 (.slot 16)),
 xL 18 (.load false 1 (.slot 17)),
 xM 19 4,
 xL 20 (.bin .add 3 .num (.slot 19) (.const (.int .i64 (.ofNat 1)))),
 xM 21 0,
 xL 22 (.nilCheck (.slot 21)),
 xL 23 (.faddr 4 (.slot 22)),
 xL 24 (.load false 1 (.slot 23)),
 xL 25 (.len .slice (.slot 24)),
 xL 26 (.bin .sub 3 .num (.slot 20) (.slot 25)),
 xL 27 (.appendZ 1 1 [(.int .i8 (.ofNat 0))] (.slot 18) (.slot 26)),
 xL 28 (.nilCheck (.slot 14)),
 xL 29 (.faddr 4 (.slot 28)),
 ⟨⟨.store 1 (.slot 29) (.slot 27),none,none⟩,[]⟩]
def r39_3 := [xM 30 0,
 xL 31 (.nilCheck (.slot 30)),
 xL 32 (.faddr 4 (.slot 31)),
 xL 33 (.load false 1 (.slot 32)),
 xM 34 4,
 xL 35 (.iaddr 1 (.slot 33) (.slot 34)),
 ⟨⟨.store 1 (.slot 35) (.const (.int .i8 (.ofNat 1))),none,none⟩,[]⟩]
def r39_4 := [xM 36 1,
 xL 37 (.bin .lss 40 .num (.slot 36) (.const (.int .i32 (.ofNat 0))))]
def r39_5 := [xM 38 0,
 xL 39 (.nilCheck (.slot 38)),
 xL 40 (.faddr 4 (.slot 39)),
 xL 41 (.load false 1 (.slot 40)),
 xM 42 4,
 xL 43 (.iaddr 1 (.slot 41) (.slot 42)),
 ⟨⟨.store 1 (.slot 43) (.const (.int .i8 (.negSucc 0))),none,none⟩,[]⟩]
def r39_6 := [xM 44 0,
 xM 45 0,
 xL 46 (.nilCheck (.slot 45)),
 xL 47 (.faddr 5 (.slot 46)),
 xL 48 (.load false 1 (.slot 47)),
 xM 49 1,
 xL 50 (.bslice 1 [(.int .i32 (.ofNat 0))] [(0,1,(.slot 49))] 1),
 xL 51 (.append 1 4 (.slot 48) (.slot 50)),
 xL 52 (.nilCheck (.slot 44)),
 xL 53 (.faddr 5 (.slot 52)),
 ⟨⟨.store 1 (.slot 53) (.slot 51),none,none⟩,[]⟩]
def xf39 : XFunc := ⟨(.seq (.region false r39_0)
 (.seq (.seq (.region false r39_1)
 (.cond (.slot 13)
 (.region true r39_2)
 .skip))
 (.seq (.region false r39_3)
 (.seq (.seq (.region false r39_4)
 (.cond (.slot 37)
 (.region false r39_5)
 .skip))
 (.region false r39_6))))),
 []⟩
theorem xf39_ok : cmF Tryz.prog Tryz.f39 = some xf39 := by kernel_rfl
def r40_0 := [xL 2 (.mv (.const .nils)),
 xL 3 (.mv (.const .nils))]
def r40_1 := [xM 5 0,
 xL 6 (.call (.const (.func 56 [] [])) [(.slot 5),(.const (.func 57 [] []))]),
 xM 4 6]
def r40_2 := [xM 7 4,
 xL 8 (.bin .lss 3 .num (.slot 7) (.const (.int .i64 (.ofNat 0))))]
def r40_3 := [xM 9 0,
 xL 10 (.len .slice (.slot 9)),
 xM 4 10]
def r40_4 := [xM 11 0,
 xM 12 4,
 xL 13 (.slc 1 (.slot 11) none (some (.slot 12)) none),
 xM 14 0,
 xM 15 4,
 xL 16 (.slc 1 (.slot 14) (some (.slot 15)) none none),
 xM 2 13,
 xM 3 16]
def xf40 : XFunc := ⟨(.seq (.region false r40_0)
 (.seq (.region false r40_1)
 (.seq (.seq (.region false r40_2)
 (.cond (.slot 8)
 (.region false r40_3)
 .skip))
 (.seq (.region true r40_4)
 .ret)))),
 [.tmp 2,.tmp 3]⟩
theorem xf40_ok : cmF Tryz.prog Tryz.f40 = some xf40 := by kernel_rfl
def r41_0 := [xL 2 (.box (.slot 0)),
 xL 4 (.mv (.const (.int .i64 (.ofNat 0))))]
def r41_1 := [xL 9 (.mkfunc 58 [] [(.slot 2)]),
 xM 5 9]
def r41_2 := [xM 10 1,
 xL 11 (.len .slice (.slot 10)),
 xL 12 (.mv (.const (.int .i64 (.ofNat 0))))]
def r41_3 := [xL 13 (.bin .lss 3 .num (.slot 12) (.slot 11))]
def r41_4 := [xL 14 (.iaddr 1 (.slot 10) (.slot 12)),
 xL 15 (.load false 1 (.slot 14)),
 xM 7 15]
def r41_5 := [xM 16 5,
 xM 17 7,
 xL 18 (.call (.slot 16) [(.slot 17)]),
 xM 8 18]
def r41_6 := [xM 19 8,
 xL 20 (.bin .neq 81 .num (.slot 19) (.const (.int .i64 (.ofNat 0))))]
def r41_7 := [xM 21 8,
 xM 4 21]
def r41_8 := [xL 22 (.bin .add 3 .num (.slot 12) (.const (.int .i64 (.ofNat 1)))),
 xM 12 22]
def r41_9 := [xL 4 (.mv (.const (.int .i64 (.ofNat 0))))]
def xf41 : XFunc := ⟨(.seq (.region false r41_0)
 (.seq (.region false r41_1)
 (.seq (.seq (.region false r41_2)
 (.block 0 (.loop (.seq (.region false r41_3)
 (.seq (.cond (.slot 13)
 .skip
 (.exit 0))
 (.seq (.block 1 (.seq (.region false r41_4)
 (.seq (.region false r41_5)
 (.seq (.region false r41_6)
 (.cond (.slot 20)
 (.seq (.region false r41_7)
 .ret)
 .skip)))))
 (.region false r41_8)))))))
 (.seq (.region false r41_9)
 .ret)))),
 [.tmp 4]⟩
theorem xf41_ok : cmF Tryz.prog Tryz.f41 = some xf41 := by kernel_rfl
def r42_0 := [xL 6 (.mv (.const (.int .i64 (.ofNat 0))))]
def r42_1 := [xL 17 (.mkmap .i64),
 xM 7 17]
def r42_2 := [xL 8 (.mv (.const (.int .i64 (.ofNat 0))))]
def r42_3 := [xM 18 2,
 xL 19 (.len .slice (.slot 18)),
 xL 20 (.bin .gtr 3 .num (.slot 19) (.const (.int .i64 (.ofNat 0))))]
def r42_4 := [xM 21 2,
 xL 22 (.iaddr 1 (.slot 21) (.const (.int .i64 (.ofNat 0)))),
 xL 23 (.load false 1 (.slot 22)),
 xL 24 (.un .neg (.slot 23)),
 xM 9 24]
def r42_5 := [xM 26 2,
 xL 27 (.slc 1 (.slot 26) (some (.const (.int .i64 (.ofNat 1)))) none none),
 xL 28 (.call (.const (.func 40 [] [])) [(.slot 27)]),
 xM 25 28,
 xL 29 (.extract (.slot 25) 0),
 xL 30 (.extract (.slot 25) 1),
 xM 10 29,
 xM 11 30]
def r42_6 := [xM 32 0,
 xL 33 (.nilCheck (.slot 32)),
 xL 34 (.faddr 0 (.slot 33)),
 xL 35 (.load false 1 (.slot 34)),
 xM 36 9,
 xL 37 (.lookup .i64 .nilp (.slot 35) (.slot 36) true),
 xM 31 37,
 xL 38 (.extract (.slot 31) 0),
 xL 39 (.extract (.slot 31) 1),
 xM 12 38,
 xM 13 39]
def r42_7 := [xM 40 13,
 xL 41 (.un .not (.slot 40)),
 xM 42 41,
 ⟨⟨.mv (.slot 12),some 43,some (42,false)⟩,[]⟩,
 ⟨⟨.nilCheck (.slot 43),some 44,some (42,false)⟩,[]⟩,
 ⟨⟨.faddr 1 (.slot 44),some 45,some (42,false)⟩,[]⟩,
 ⟨⟨.load false 1 (.slot 45),some 46,some (42,false)⟩,[]⟩,
 ⟨⟨.mv (.slot 1),some 47,some (42,false)⟩,[]⟩,
 ⟨⟨.un .neg (.slot 47),some 48,some (42,false)⟩,[]⟩,
 ⟨⟨.call (.const (.func 60 [] [])) [(.slot 46),(.slot 48)],some 49,some (42,false)⟩,[]⟩,
 ⟨⟨.un .not (.slot 49),some 50,some (42,false)⟩,[]⟩,
 xL 51 (.pick (.slot 42) (.const (.bool true)) (.slot 50)),
 xM 52 51,
 ⟨⟨.mv (.slot 9),some 53,some (52,false)⟩,[]⟩,
 ⟨⟨.mv (.slot 8),some 54,some (52,false)⟩,[]⟩,
 ⟨⟨.bin .leq 2 .num (.slot 53) (.slot 54),some 55,some (52,false)⟩,[]⟩,
 xL 56 (.pick (.slot 52) (.const (.bool true)) (.slot 55))]
def r42_8 := [xL 6 (.mv (.const (.int .i64 (.ofNat 60))))]
def r42_9 := [xM 57 0,
 xM 58 12,
 xM 59 1,
 xM 60 10,
 xL 61 (.call (.const (.func 61 [] [])) [(.slot 57),(.slot 58),(.slot 59),(.slot 60)]),
 xM 14 61]
def r42_10 := [xM 62 14,
 xL 63 (.bin .neq 31 .num (.slot 62) (.const (.int .i64 (.ofNat 0))))]
def r42_11 := [xM 64 14,
 xM 6 64]
def r42_12 := [xM 65 7,
 xM 66 9,
 xM 67 9,
 xM 68 11,
 ⟨⟨.mapup .i64 (.slot 65) (.slot 66) (.const (.bool true)),none,none⟩,[]⟩,
 xM 8 67,
 xM 2 68]
def r42_13 := [xM 69 0,
 xL 70 (.nilCheck (.slot 69)),
 xL 71 (.faddr 0 (.slot 70)),
 xL 72 (.load false 1 (.slot 71)),
 xL 73 (.range .i64 (.slot 72))]
def r42_14 := [xL 74 (.next (.slot 73)),
 xL 75 (.extract (.slot 74) 0)]
def r42_15 := [xL 76 (.entry (.slot 73)),
 xL 77 (.extract (.slot 76) 0),
 xL 78 (.extract (.slot 76) 1),
 xM 15 77,
 xM 16 78]
def r42_16 := [xM 79 7,
 xM 80 15,
 xL 81 (.lookup .i64 (.bool false) (.slot 79) (.slot 80) false),
 xL 82 (.un .not (.slot 81)),
 xM 83 82,
 ⟨⟨.mv (.slot 16),some 84,some (83,true)⟩,[]⟩,
 ⟨⟨.nilCheck (.slot 84),some 85,some (83,true)⟩,[]⟩,
 ⟨⟨.faddr 1 (.slot 85),some 86,some (83,true)⟩,[]⟩,
 ⟨⟨.load false 1 (.slot 86),some 87,some (83,true)⟩,[]⟩,
 ⟨⟨.mv (.slot 1),some 88,some (83,true)⟩,[]⟩,
 ⟨⟨.un .neg (.slot 88),some 89,some (83,true)⟩,[]⟩,
 ⟨⟨.call (.const (.func 60 [] [])) [(.slot 87),(.slot 89)],some 90,some (83,true)⟩,[]⟩,
 xL 91 (.pick (.slot 83) (.slot 90) (.const (.bool false)))]
def r42_17 := [xL 6 (.mv (.const (.int .i64 (.ofNat 61))))]
def r42_18 := [xL 6 (.mv (.const (.int .i64 (.ofNat 0))))]
def xf42 : XFunc := ⟨(.seq (.region false r42_0)
 (.seq (.region false r42_1)
 (.seq (.region false r42_2)
 (.seq (.block 0 (.loop (.seq (.seq (.region false r42_3)
 (.cond (.slot 20)
 .skip
 (.exit 0)))
 (.block 1 (.seq (.region false r42_4)
 (.seq (.region false r42_5)
 (.seq (.region false r42_6)
 (.seq (.seq (.region false r42_7)
 (.cond (.slot 56)
 (.seq (.region false r42_8)
 .ret)
 .skip))
 (.seq (.seq (.region false r42_9)
 (.seq (.region false r42_10)
 (.cond (.slot 63)
 (.seq (.region false r42_11)
 .ret)
 .skip)))
 (.region false r42_12))))))))))
 (.seq (.seq (.region false r42_13)
 (.block 2 (.loop (.seq (.region false r42_14)
 (.seq (.cond (.slot 75)
 .skip
 (.exit 2))
 (.block 3 (.seq (.region false r42_15)
 (.seq (.region false r42_16)
 (.cond (.slot 91)
 (.seq (.region false r42_17)
 .ret)
 .skip)))))))))
 (.seq (.region false r42_18)
 .ret)))))),
 [.tmp 6]⟩
theorem xf42_ok : cmF Tryz.prog Tryz.f42 = some xf42 := by kernel_rfl
def r43_0 := [xL 2 (.mv (.const (.bool false)))]
def r43_1 := [xM 3 0,
 xL 4 (.bin .neq 40 .num (.slot 3) (.const (.int .i32 (.ofNat 0)))),
 xM 5 4,
 ⟨⟨.mv (.slot 0),some 6,some (5,true)⟩,[]⟩,
 ⟨⟨.bin .geq 40 .num (.slot 6) (.const (.int .i32 (.negSucc 1048575))),some 7,some (5,true)⟩,[]⟩,
 xL 8 (.pick (.slot 5) (.slot 7) (.const (.bool false))),
 xM 9 8,
 ⟨⟨.mv (.slot 0),some 10,some (9,true)⟩,[]⟩,
 ⟨⟨.bin .leq 40 .num (.slot 10) (.const (.int .i32 (.ofNat 1048576))),some 11,some (9,true)⟩,[]⟩,
 xL 12 (.pick (.slot 9) (.slot 11) (.const (.bool false))),
 xM 2 12]
def xf43 : XFunc := ⟨(.seq (.region false r43_0)
 (.seq (.region false r43_1)
 .ret)),
 [.tmp 2]⟩
theorem xf43_ok : cmF Tryz.prog Tryz.f43 = some xf43 := by kernel_rfl
def r44_0 := [xL 4 (.mv (.const (.int .i64 (.ofNat 0))))]
def r44_1 := [xL 5 (.mv (.const (.int .i64 (.ofNat 0))))]
def r44_2 := [xM 6 5,
 xM 7 0,
 xL 8 (.nilCheck (.slot 7)),
 xL 9 (.faddr 0 (.slot 8)),
 xL 10 (.load false 1 (.slot 9)),
 xL 11 (.len .slice (.slot 10)),
 xL 12 (.bin .lss 3 .num (.slot 6) (.slot 11))]
def r44_3 := [xM 15 0,
 xL 16 (.nilCheck (.slot 15)),
 xL 17 (.faddr 0 (.slot 16)),
 xL 18 (.load false 1 (.slot 17)),
 xM 19 5,
 xL 20 (.iaddr 2 (.slot 18) (.slot 19)),
 xL 21 (.faddr 0 (.slot 20)),
 xL 22 (.load false 1 (.slot 21)),
 xM 23 1,
 xL 24 (.bin .eql 2 .num (.slot 22) (.slot 23))]
def r44_4 := [xM 25 5,
 xM 4 25]
def r44_5 := [xM 13 5,
 xL 14 (.bin .add 3 .num (.slot 13) (.const (.int .i64 (.ofNat 1)))),
 xM 5 14]
def r44_6 := [xL 4 (.mv (.const (.int .i64 (.negSucc 0))))]
def xf44 : XFunc := ⟨(.seq (.region false r44_0)
 (.seq (.seq (.region false r44_1)
 (.block 0 (.loop (.seq (.seq (.region false r44_2)
 (.cond (.slot 12)
 .skip
 (.exit 0)))
 (.seq (.block 1 (.seq (.region false r44_3)
 (.cond (.slot 24)
 (.seq (.region false r44_4)
 .ret)
 .skip)))
 (.region false r44_5))))))
 (.seq (.region false r44_6)
 .ret))),
 [.tmp 4]⟩
theorem xf44_ok : cmF Tryz.prog Tryz.f44 = some xf44 := by kernel_rfl
def r45_0 := [xL 2 (.mv (.const (.bool false)))]
def r45_1 := [xM 6 0,
 xL 7 (.call (.const (.func 62 [] [])) [(.slot 6)]),
 xM 5 7,
 xL 8 (.extract (.slot 5) 0),
 xL 9 (.extract (.slot 5) 1),
 xM 3 8,
 xM 4 9]
def r45_2 := [xM 10 4,
 xM 2 10]
def xf45 : XFunc := ⟨(.seq (.region false r45_0)
 (.seq (.region false r45_1)
 (.seq (.region false r45_2)
 .ret))),
 [.tmp 2]⟩
theorem xf45_ok : cmF Tryz.prog Tryz.f45 = some xf45 := by kernel_rfl
def r46_0 := [xL 2 (.mv (.const (.int .i64 (.ofNat 0))))]
def r46_1 := [xL 3 (.mv (.const (.int .i64 (.ofNat 0))))]
def r46_2 := [xM 4 3,
 xM 5 0,
 xL 6 (.len .slice (.slot 5)),
 xL 7 (.bin .lss 3 .num (.slot 4) (.slot 6)),
 xM 8 7,
 ⟨⟨.mv (.slot 0),some 9,some (8,true)⟩,[]⟩,
 ⟨⟨.mv (.slot 3),some 10,some (8,true)⟩,[]⟩,
 ⟨⟨.iaddr 1 (.slot 9) (.slot 10),some 11,some (8,true)⟩,[]⟩,
 ⟨⟨.load false 1 (.slot 11),some 12,some (8,true)⟩,[]⟩,
 ⟨⟨.bin .gtr 2 .num (.slot 12) (.const (.int .i64 (.ofNat 0))),some 13,some (8,true)⟩,[]⟩,
 xL 14 (.pick (.slot 8) (.slot 13) (.const (.bool false)))]
def r46_3 := [xM 15 3,
 xL 16 (.bin .add 3 .num (.slot 15) (.const (.int .i64 (.ofNat 1)))),
 xM 3 16]
def r46_4 := [xM 17 3,
 xM 2 17]
def xf46 : XFunc := ⟨(.seq (.region false r46_0)
 (.seq (.region false r46_1)
 (.seq (.block 0 (.loop (.seq (.seq (.region false r46_2)
 (.cond (.slot 14)
 .skip
 (.exit 0)))
 (.block 1 (.region false r46_3)))))
 (.seq (.region false r46_4)
 .ret)))),
 [.tmp 2]⟩
theorem xf46_ok : cmF Tryz.prog Tryz.f46 = some xf46 := by kernel_rfl
def r47_0 := [xL 6 (.mv (.const .nils)),
 xL 7 (.mv (.const (.bool false))),
 xL 8 (.mv (.const (.bool false)))]
def r47_1 := [xL 9 (.mv (.const (.int .i64 (.ofNat 0))))]
def r47_2 := [xM 14 9,
 xM 15 2,
 xL 16 (.len .slice (.slot 15)),
 xL 17 (.bin .lss 3 .num (.slot 14) (.slot 16))]
def r47_3 := [xM 20 0,
 xM 21 2,
 xM 22 9,
 xL 23 (.iaddr 1 (.slot 21) (.slot 22)),
 xL 24 (.load false 1 (.slot 23)),
 xL 25 (.call (.const (.func 44 [] [])) [(.slot 20),(.slot 24)]),
 xM 10 25]
def r47_4 := [xM 26 10,
 xL 27 (.bin .lss 3 .num (.slot 26) (.const (.int .i64 (.ofNat 0))))]
def r47_5 := [xM 28 1,
 xM 6 28,
 xL 7 (.mv (.const (.bool false))),
 xL 8 (.mv (.const (.bool true)))]
def r47_6 := [xL 11 (.mv (.const .nils))]
def r47_7 := [xM 29 0,
 xL 30 (.nilCheck (.slot 29)),
 xL 31 (.faddr 0 (.slot 30)),
 xL 32 (.load false 1 (.slot 31)),
 xM 33 10,
 xL 34 (.iaddr 2 (.slot 32) (.slot 33)),
 xL 35 (.faddr 1 (.slot 34)),
 xL 36 (.load false 1 (.slot 35)),
 xM 12 36]
def r47_8 := [xL 13 (.mv (.const (.int .i64 (.ofNat 0))))]
def r47_9 := [xM 37 13,
 xM 38 12,
 xL 39 (.len .slice (.slot 38)),
 xL 40 (.bin .lss 3 .num (.slot 37) (.slot 39))]
def r47_10 := [xM 43 1,
 xM 44 12,
 xM 45 13,
 xL 46 (.iaddr 1 (.slot 44) (.slot 45)),
 xL 47 (.load false 1 (.slot 46)),
 xL 48 (.call (.const (.func 63 [] [])) [(.slot 43),(.slot 47)])]
def r47_11 := [xM 49 1,
 xM 6 49,
 xL 7 (.mv (.const (.bool false))),
 xL 8 (.mv (.const (.bool true)))]
def r47_12 := [xM 50 1,
 xM 51 12,
 xM 52 13,
 xL 53 (.iaddr 1 (.slot 51) (.slot 52)),
 xL 54 (.load false 1 (.slot 53)),
 xL 55 (.un .neg (.slot 54)),
 xL 56 (.call (.const (.func 63 [] [])) [(.slot 50),(.slot 55)]),
 xL 57 (.un .not (.slot 56)),
 xM 58 57,
 ⟨⟨.mv (.slot 11),some 59,some (58,true)⟩,[]⟩,
 ⟨⟨.mv (.slot 12),some 60,some (58,true)⟩,[]⟩,
 ⟨⟨.mv (.slot 13),some 61,some (58,true)⟩,[]⟩,
 ⟨⟨.iaddr 1 (.slot 60) (.slot 61),some 62,some (58,true)⟩,[]⟩,
 ⟨⟨.load false 1 (.slot 62),some 63,some (58,true)⟩,[]⟩,
 ⟨⟨.call (.const (.func 63 [] [])) [(.slot 59),(.slot 63)],some 64,some (58,true)⟩,[]⟩,
 ⟨⟨.un .not (.slot 64),some 65,some (58,true)⟩,[]⟩,
 xL 66 (.pick (.slot 58) (.slot 65) (.const (.bool false)))]
def r47_13 := [xM 67 11,
 xM 68 12,
 xM 69 13,
 xL 70 (.iaddr 1 (.slot 68) (.slot 69)),
 xL 71 (.load false 1 (.slot 70)),
 xL 72 (.bslice 1 [(.int .i32 (.ofNat 0))] [(0,1,(.slot 71))] 1),
 xL 73 (.append 1 4 (.slot 67) (.slot 72)),
 xM 11 73]
def r47_14 := [xM 41 13,
 xL 42 (.bin .add 3 .num (.slot 41) (.const (.int .i64 (.ofNat 1)))),
 xM 13 42]
def r47_15 := [xM 74 11,
 xL 75 (.len .slice (.slot 74)),
 xL 76 (.bin .eql 3 .num (.slot 75) (.const (.int .i64 (.ofNat 0))))]
def r47_16 := [xM 77 1,
 xM 6 77,
 xL 7 (.mv (.const (.bool true))),
 xL 8 (.mv (.const (.bool false)))]
def r47_17 := [xM 78 11,
 xL 79 (.len .slice (.slot 78)),
 xL 80 (.bin .gtr 3 .num (.slot 79) (.const (.int .i64 (.ofNat 1))))]
def r47_18 := [xM 81 1,
 xM 6 81,
 xL 7 (.mv (.const (.bool false))),
 xL 8 (.mv (.const (.bool true)))]
def r47_19 := [xM 82 1,
 xM 83 11,
 xL 84 (.iaddr 1 (.slot 83) (.const (.int .i64 (.ofNat 0)))),
 xL 85 (.load false 1 (.slot 84)),
 xL 86 (.bslice 1 [(.int .i32 (.ofNat 0))] [(0,1,(.slot 85))] 1),
 xL 87 (.append 1 4 (.slot 82) (.slot 86)),
 xM 1 87]
def r47_20 := [xM 18 9,
 xL 19 (.bin .add 3 .num (.slot 18) (.const (.int .i64 (.ofNat 1)))),
 xM 9 19]
def r47_21 := [xM 88 1,
 xM 6 88,
 xL 7 (.mv (.const (.bool false))),
 xL 8 (.mv (.const (.bool false)))]
def xf47 : XFunc := ⟨(.seq (.region false r47_0)
 (.seq (.seq (.region false r47_1)
 (.block 0 (.loop (.seq (.seq (.region false r47_2)
 (.cond (.slot 17)
 .skip
 (.exit 0)))
 (.seq (.block 1 (.seq (.region false r47_3)
 (.seq (.seq (.region false r47_4)
 (.cond (.slot 27)
 (.seq (.region false r47_5)
 .ret)
 .skip))
 (.seq (.region false r47_6)
 (.seq (.region false r47_7)
 (.seq (.seq (.region false r47_8)
 (.block 2 (.loop (.seq (.seq (.region false r47_9)
 (.cond (.slot 40)
 .skip
 (.exit 2)))
 (.seq (.block 3 (.seq (.seq (.region false r47_10)
 (.cond (.slot 48)
 (.seq (.region false r47_11)
 .ret)
 .skip))
 (.seq (.region false r47_12)
 (.cond (.slot 66)
 (.region false r47_13)
 .skip))))
 (.region false r47_14))))))
 (.seq (.seq (.region false r47_15)
 (.cond (.slot 76)
 (.seq (.region false r47_16)
 .ret)
 .skip))
 (.seq (.seq (.region false r47_17)
 (.cond (.slot 80)
 (.seq (.region false r47_18)
 .ret)
 .skip))
 (.region false r47_19)))))))))
 (.region false r47_20))))))
 (.seq (.region false r47_21)
 .ret))),
 [.tmp 6,.tmp 7,.tmp 8]⟩
theorem xf47_ok : cmF Tryz.prog Tryz.f47 = some xf47 := by kernel_rfl
def r48_0 := [xL 8 (.mv (.const (.int .i64 (.ofNat 0))))]
def r48_1 := [xM 19 1,
 xL 20 (.len .slice (.slot 19)),
 xL 21 (.bin .eql 3 .num (.slot 20) (.const (.int .i64 (.ofNat 0))))]
def r48_2 := [xL 8 (.mv (.const (.int .i64 (.ofNat 61))))]
def r48_3 := [xM 22 1,
 xL 23 (.iaddr 1 (.slot 22) (.const (.int .i64 (.ofNat 0)))),
 xL 24 (.load false 1 (.slot 23)),
 xM 9 24]
def r48_4 := [xL 10 (.mv (.const .nils))]
def r48_5 := [xL 11 (.mv (.const (.int .i64 (.ofNat 0))))]
def r48_6 := [xM 25 11,
 xM 26 3,
 xL 27 (.len .slice (.slot 26)),
 xL 28 (.bin .lss 3 .num (.slot 25) (.slot 27))]
def r48_7 := [xM 29 3,
 xM 30 11,
 xL 31 (.iaddr 1 (.slot 29) (.slot 30)),
 xL 32 (.load false 1 (.slot 31)),
 xL 33 (.un .neg (.slot 32)),
 xM 12 33]
def r48_8 := [xM 34 3,
 xM 35 11,
 xL 36 (.bin .add 3 .num (.slot 35) (.const (.int .i64 (.ofNat 1)))),
 xL 37 (.slc 1 (.slot 34) (some (.slot 36)) none none),
 xL 38 (.call (.const (.func 46 [] [])) [(.slot 37)]),
 xM 13 38]
def r48_9 := [xM 39 0,
 xM 40 12,
 xL 41 (.call (.const (.func 44 [] [])) [(.slot 39),(.slot 40)]),
 xM 14 41]
def r48_10 := [xM 42 14,
 xL 43 (.bin .lss 3 .num (.slot 42) (.const (.int .i64 (.ofNat 0)))),
 xM 44 43,
 ⟨⟨.mv (.slot 0),some 45,some (44,false)⟩,[]⟩,
 ⟨⟨.nilCheck (.slot 45),some 46,some (44,false)⟩,[]⟩,
 ⟨⟨.faddr 0 (.slot 46),some 47,some (44,false)⟩,[]⟩,
 ⟨⟨.load false 1 (.slot 47),some 48,some (44,false)⟩,[]⟩,
 ⟨⟨.mv (.slot 14),some 49,some (44,false)⟩,[]⟩,
 ⟨⟨.iaddr 2 (.slot 48) (.slot 49),some 50,some (44,false)⟩,[]⟩,
 ⟨⟨.faddr 1 (.slot 50),some 51,some (44,false)⟩,[]⟩,
 ⟨⟨.load false 1 (.slot 51),some 52,some (44,false)⟩,[]⟩,
 ⟨⟨.mv (.slot 9),some 53,some (44,false)⟩,[]⟩,
 ⟨⟨.un .neg (.slot 53),some 54,some (44,false)⟩,[]⟩,
 ⟨⟨.call (.const (.func 63 [] [])) [(.slot 52),(.slot 54)],some 55,some (44,false)⟩,[]⟩,
 ⟨⟨.un .not (.slot 55),some 56,some (44,false)⟩,[]⟩,
 xL 57 (.pick (.slot 44) (.const (.bool true)) (.slot 56)),
 xM 58 57,
 ⟨⟨.mv (.slot 10),some 59,some (58,false)⟩,[]⟩,
 ⟨⟨.len .slice (.slot 59),some 60,some (58,false)⟩,[]⟩,
 ⟨⟨.bin .gtr 3 .num (.slot 60) (.const (.int .i64 (.ofNat 0))),some 61,some (58,false)⟩,[]⟩,
 ⟨⟨.mv (.slot 61),some 62,some (58,false)⟩,[]⟩,
 ⟨⟨.mv (.slot 10),some 63,some (62,true)⟩,[]⟩,
 ⟨⟨.mv (.slot 10),some 64,some (62,true)⟩,[]⟩,
 ⟨⟨.len .slice (.slot 64),some 65,some (62,true)⟩,[]⟩,
 ⟨⟨.bin .sub 3 .num (.slot 65) (.const (.int .i64 (.ofNat 1))),some 66,some (62,true)⟩,[]⟩,
 ⟨⟨.iaddr 1 (.slot 63) (.slot 66),some 67,some (62,true)⟩,[]⟩,
 ⟨⟨.load false 1 (.slot 67),some 68,some (62,true)⟩,[]⟩,
 ⟨⟨.mv (.slot 12),some 69,some (62,true)⟩,[]⟩,
 ⟨⟨.bin .geq 2 .num (.slot 68) (.slot 69),some 70,some (62,true)⟩,[]⟩,
 ⟨⟨.pick (.slot 62) (.slot 70) (.const (.bool false)),some 71,some (58,false)⟩,[]⟩,
 xL 72 (.pick (.slot 58) (.const (.bool true)) (.slot 71))]
def r48_11 := [xL 8 (.mv (.const (.int .i64 (.ofNat 60))))]
def r48_12 := [xM 73 0,
 xM 74 0,
 xL 75 (.nilCheck (.slot 74)),
 xL 76 (.faddr 0 (.slot 75)),
 xL 77 (.load false 1 (.slot 76)),
 xM 78 14,
 xL 79 (.iaddr 2 (.slot 77) (.slot 78)),
 xL 80 (.faddr 1 (.slot 79)),
 xL 81 (.load false 1 (.slot 80)),
 xM 82 9,
 xM 83 2,
 xM 84 3,
 xM 85 11,
 xL 86 (.bin .add 3 .num (.slot 85) (.const (.int .i64 (.ofNat 1)))),
 xM 87 11,
 xL 88 (.bin .add 3 .num (.slot 87) (.const (.int .i64 (.ofNat 1)))),
 xM 89 13,
 xL 90 (.bin .add 3 .num (.slot 88) (.slot 89)),
 xL 91 (.slc 1 (.slot 84) (some (.slot 86)) (some (.slot 90)) none),
 xL 92 (.call (.const (.func 64 [] [])) [(.slot 73),(.slot 81),(.slot 82),(.slot 83),(.slot 91)]),
 xM 15 92]
def r48_13 := [xM 93 15,
 xL 94 (.bin .neq 31 .num (.slot 93) (.const (.int .i64 (.ofNat 0))))]
def r48_14 := [xM 95 15,
 xM 8 95]
def r48_15 := [xM 96 10,
 xM 97 12,
 xL 98 (.bslice 1 [(.int .i64 (.ofNat 0))] [(0,1,(.slot 97))] 1),
 xL 99 (.append 1 8 (.slot 96) (.slot 98)),
 xM 10 99]
def r48_16 := [xM 100 11,
 xL 101 (.bin .add 3 .num (.slot 100) (.const (.int .i64 (.ofNat 1)))),
 xM 102 13,
 xL 103 (.bin .add 3 .num (.slot 101) (.slot 102)),
 xM 11 103]
def r48_17 := [xL 16 (.mv (.const (.int .i64 (.ofNat 0))))]
def r48_18 := [xM 104 16,
 xM 105 0,
 xL 106 (.nilCheck (.slot 105)),
 xL 107 (.faddr 0 (.slot 106)),
 xL 108 (.load false 1 (.slot 107)),
 xL 109 (.len .slice (.slot 108)),
 xL 110 (.bin .lss 3 .num (.slot 104) (.slot 109))]
def r48_19 := [xM 113 0,
 xL 114 (.nilCheck (.slot 113)),
 xL 115 (.faddr 0 (.slot 114)),
 xL 116 (.load false 1 (.slot 115)),
 xM 117 16,
 xL 118 (.iaddr 2 (.slot 116) (.slot 117)),
 xL 119 (.faddr 1 (.slot 118)),
 xL 120 (.load false 1 (.slot 119)),
 xM 121 9,
 xL 122 (.un .neg (.slot 121)),
 xL 123 (.call (.const (.func 63 [] [])) [(.slot 120),(.slot 122)]),
 xL 124 (.un .not (.slot 123))]
def r48_20 := [xL 17 (.mv (.const (.bool false)))]
def r48_21 := [xL 18 (.mv (.const (.int .i64 (.ofNat 0))))]
def r48_22 := [xM 125 18,
 xM 126 10,
 xL 127 (.len .slice (.slot 126)),
 xL 128 (.bin .lss 3 .num (.slot 125) (.slot 127))]
def r48_23 := [xM 131 17,
 xM 132 131,
 ⟨⟨.mv (.slot 10),some 133,some (132,false)⟩,[]⟩,
 ⟨⟨.mv (.slot 18),some 134,some (132,false)⟩,[]⟩,
 ⟨⟨.iaddr 1 (.slot 133) (.slot 134),some 135,some (132,false)⟩,[]⟩,
 ⟨⟨.load false 1 (.slot 135),some 136,some (132,false)⟩,[]⟩,
 ⟨⟨.mv (.slot 0),some 137,some (132,false)⟩,[]⟩,
 ⟨⟨.nilCheck (.slot 137),some 138,some (132,false)⟩,[]⟩,
 ⟨⟨.faddr 0 (.slot 138),some 139,some (132,false)⟩,[]⟩,
 ⟨⟨.load false 1 (.slot 139),some 140,some (132,false)⟩,[]⟩,
 ⟨⟨.mv (.slot 16),some 141,some (132,false)⟩,[]⟩,
 ⟨⟨.iaddr 2 (.slot 140) (.slot 141),some 142,some (132,false)⟩,[]⟩,
 ⟨⟨.faddr 0 (.slot 142),some 143,some (132,false)⟩,[]⟩,
 ⟨⟨.load false 1 (.slot 143),some 144,some (132,false)⟩,[]⟩,
 ⟨⟨.bin .eql 2 .num (.slot 136) (.slot 144),some 145,some (132,false)⟩,[]⟩,
 xL 146 (.pick (.slot 132) (.const (.bool true)) (.slot 145)),
 xM 17 146]
def r48_24 := [xM 129 18,
 xL 130 (.bin .add 3 .num (.slot 129) (.const (.int .i64 (.ofNat 1)))),
 xM 18 130]
def r48_25 := [xM 147 17,
 xL 148 (.un .not (.slot 147))]
def r48_26 := [xL 8 (.mv (.const (.int .i64 (.ofNat 61))))]
def r48_27 := [xM 111 16,
 xL 112 (.bin .add 3 .num (.slot 111) (.const (.int .i64 (.ofNat 1)))),
 xM 16 112]
def r48_28 := [xL 8 (.mv (.const (.int .i64 (.ofNat 0))))]
def xf48 : XFunc := ⟨(.seq (.region false r48_0)
 (.seq (.seq (.region false r48_1)
 (.cond (.slot 21)
 (.seq (.region false r48_2)
 .ret)
 .skip))
 (.seq (.region false r48_3)
 (.seq (.region false r48_4)
 (.seq (.seq (.region false r48_5)
 (.block 0 (.loop (.seq (.seq (.region false r48_6)
 (.cond (.slot 28)
 .skip
 (.exit 0)))
 (.block 1 (.seq (.region false r48_7)
 (.seq (.region false r48_8)
 (.seq (.region false r48_9)
 (.seq (.seq (.region false r48_10)
 (.cond (.slot 72)
 (.seq (.region false r48_11)
 .ret)
 .skip))
 (.seq (.region true r48_12)
 (.seq (.seq (.region false r48_13)
 (.cond (.slot 94)
 (.seq (.region false r48_14)
 .ret)
 .skip))
 (.seq (.region false r48_15)
 (.region false r48_16)))))))))))))
 (.seq (.seq (.region false r48_17)
 (.block 2 (.loop (.seq (.seq (.region false r48_18)
 (.cond (.slot 110)
 .skip
 (.exit 2)))
 (.seq (.block 3 (.seq (.seq (.region false r48_19)
 (.cond (.slot 124)
 (.exit 3)
 .skip))
 (.seq (.region false r48_20)
 (.seq (.seq (.region false r48_21)
 (.block 4 (.loop (.seq (.seq (.region false r48_22)
 (.cond (.slot 128)
 .skip
 (.exit 4)))
 (.seq (.block 5 (.region true r48_23))
 (.region false r48_24))))))
 (.seq (.region false r48_25)
 (.cond (.slot 148)
 (.seq (.region false r48_26)
 .ret)
 .skip))))))
 (.region false r48_27))))))
 (.seq (.region false r48_28)
 .ret))))))),
 [.tmp 8]⟩
theorem xf48_ok : cmF Tryz.prog Tryz.f48 = some xf48 := by kernel_rfl
def r50_0 := [xL 1 (.box (.slot 0)),
 xL 2 (.mv (.const .nilf))]
def r50_1 := [xL 3 (.mkfunc 67 [] [(.slot 1)]),
 xM 2 3]
def xf50 : XFunc := ⟨(.seq (.region false r50_0)
 (.seq (.region false r50_1)
 .ret)),
 [.tmp 2]⟩
theorem xf50_ok : cmF Tryz.prog Tryz.f50 = some xf50 := by kernel_rfl
def r51_0 := [xL 2 (.mv (.const (.int .i64 (.ofNat 0))))]
def r51_1 := [xM 3 0,
 xL 4 (.bin .lss 95 .num (.slot 3) (.const (.int .i32 (.ofNat 0))))]
def r51_2 := [xM 5 0,
 xL 6 (.conv .i64 (.slot 5)),
 xL 7 (.un .neg (.slot 6)),
 xM 2 7]
def r51_3 := [xM 8 0,
 xL 9 (.conv .i64 (.slot 8)),
 xM 2 9]
def xf51 : XFunc := ⟨(.seq (.region false r51_0)
 (.seq (.seq (.region false r51_1)
 (.cond (.slot 4)
 (.seq (.region false r51_2)
 .ret)
 .skip))
 (.seq (.region false r51_3)
 .ret))),
 [.tmp 2]⟩
theorem xf51_ok : cmF Tryz.prog Tryz.f51 = some xf51 := by kernel_rfl
def r52_0 := [xM 5 0,
 xL 6 (.len .slice (.slot 5)),
 xM 4 6]
def r52_1 := [xM 7 0,
 xM 8 4,
 xM 9 4,
 xL 10 (.conv .u64 (.slot 9)),
 xL 11 (.call (.const (.func 69 [] [])) [(.slot 10)]),
 xM 12 1,
 xL 13 (.call (.const (.func 68 [] [])) [(.slot 7),(.const (.int .i64 (.ofNat 0))),(.slot 8),(.slot 11),(.slot 12)])]
def xf52 : XFunc := ⟨(.seq (.region false r52_0)
 (.region false r52_1)),
 []⟩
theorem xf52_ok : cmF Tryz.prog Tryz.f52 = some xf52 := by kernel_rfl
def r53_0 := [xL 4 (.mv (.const (.int .i64 (.ofNat 0))))]
def r53_1 := [xM 5 0,
 xL 6 (.call (.const (.func 33 [] [])) [(.slot 5)]),
 xM 7 1,
 xL 8 (.call (.const (.func 33 [] [])) [(.slot 7)]),
 xL 9 (.call (.const (.func 71 [] [])) [(.slot 6),(.slot 8)]),
 xM 10 0,
 xM 11 1,
 xL 12 (.call (.const (.func 72 [] [])) [(.slot 10),(.slot 11)]),
 xL 13 (.bslice 1 [(.int .i64 (.ofNat 0)),(.int .i64 (.ofNat 0))] [(0,1,(.slot 9)),(1,1,(.slot 12))] 2),
 xL 14 (.call (.const (.func 70 [] [])) [(.slot 13)]),
 xM 4 14]
def xf53 : XFunc := ⟨(.seq (.region false r53_0)
 (.seq (.region false r53_1)
 .ret)),
 [.tmp 4]⟩
theorem xf53_ok : cmF Tryz.prog Tryz.f53 = some xf53 := by kernel_rfl
def r54_0 := [xL 2 (.mv (.const .nils))]
def r54_1 := [xM 6 0,
 xL 7 (.len .slice (.slot 6)),
 xL 8 (.bin .lss 3 .num (.slot 7) (.const (.int .i64 (.ofNat 2))))]
def r54_2 := [xM 9 0,
 xM 2 9]
def r54_3 := [xL 3 (.mv (.const (.int .i64 (.ofNat 1))))]
def r54_4 := [xM 10 3,
 xM 11 0,
 xL 12 (.len .slice (.slot 11)),
 xL 13 (.bin .lss 3 .num (.slot 10) (.slot 12))]
def r54_5 := [xM 16 0,
 xM 17 3,
 xL 18 (.iaddr 1 (.slot 16) (.slot 17)),
 xL 19 (.load false 1 (.slot 18)),
 xM 20 0,
 xM 21 3,
 xL 22 (.bin .sub 3 .num (.slot 21) (.const (.int .i64 (.ofNat 1)))),
 xL 23 (.iaddr 1 (.slot 20) (.slot 22)),
 xL 24 (.load false 1 (.slot 23)),
 xL 25 (.bin .eql 40 .num (.slot 19) (.slot 24))]
def r54_6 := [xM 26 0,
 xM 27 3,
 xL 28 (.slc 1 (.slot 26) (some (.slot 27)) none none),
 xM 4 28]
def r54_7 := [xL 5 (.mv (.const (.int .i64 (.ofNat 1))))]
def r54_8 := [xM 29 5,
 xM 30 4,
 xL 31 (.len .slice (.slot 30)),
 xL 32 (.bin .lss 3 .num (.slot 29) (.slot 31))]
def r54_9 := [xM 35 4,
 xM 36 5,
 xL 37 (.iaddr 1 (.slot 35) (.slot 36)),
 xL 38 (.load false 1 (.slot 37)),
 xM 39 4,
 xM 40 5,
 xL 41 (.bin .sub 3 .num (.slot 40) (.const (.int .i64 (.ofNat 1)))),
 xL 42 (.iaddr 1 (.slot 39) (.slot 41)),
 xL 43 (.load false 1 (.slot 42)),
 xL 44 (.bin .neq 40 .num (.slot 38) (.slot 43))]
def r54_10 := [xM 45 0,
 xM 46 3,
 xM 47 4,
 xM 48 5,
 xL 49 (.iaddr 1 (.slot 47) (.slot 48)),
 xL 50 (.load false 1 (.slot 49)),
 xL 51 (.iaddr 1 (.slot 45) (.slot 46)),
 ⟨⟨.store 1 (.slot 51) (.slot 50),none,none⟩,[]⟩]
def r54_11 := [xM 52 3,
 xL 53 (.bin .add 3 .num (.slot 52) (.const (.int .i64 (.ofNat 1)))),
 xM 3 53]
def r54_12 := [xM 33 5,
 xL 34 (.bin .add 3 .num (.slot 33) (.const (.int .i64 (.ofNat 1)))),
 xM 5 34]
def r54_13 := [xM 54 0,
 xM 55 3,
 xL 56 (.slc 1 (.slot 54) (some (.slot 55)) none none),
 ⟨⟨.clear [(.int .i32 (.ofNat 0))] (.slot 56),none,none⟩,[]⟩]
def r54_14 := [xM 57 0,
 xM 58 3,
 xL 59 (.slc 1 (.slot 57) none (some (.slot 58)) none),
 xM 2 59]
def r54_15 := [xM 14 3,
 xL 15 (.bin .add 3 .num (.slot 14) (.const (.int .i64 (.ofNat 1)))),
 xM 3 15]
def r54_16 := [xM 60 0,
 xM 2 60]
def xf54 : XFunc := ⟨(.seq (.region false r54_0)
 (.seq (.seq (.region false r54_1)
 (.cond (.slot 8)
 (.seq (.region false r54_2)
 .ret)
 .skip))
 (.seq (.seq (.region false r54_3)
 (.block 0 (.loop (.seq (.seq (.region false r54_4)
 (.cond (.slot 13)
 .skip
 (.exit 0)))
 (.seq (.block 1 (.seq (.region true r54_5)
 (.cond (.slot 25)
 (.seq (.region false r54_6)
 (.seq (.seq (.region false r54_7)
 (.block 2 (.loop (.seq (.seq (.region false r54_8)
 (.cond (.slot 32)
 .skip
 (.exit 2)))
 (.seq (.block 3 (.seq (.region true r54_9)
 (.cond (.slot 44)
 (.seq (.region false r54_10)
 (.region false r54_11))
 .skip)))
 (.region false r54_12))))))
 (.seq (.region false r54_13)
 (.seq (.region false r54_14)
 .ret))))
 .skip)))
 (.region false r54_15))))))
 (.seq (.region false r54_16)
 .ret)))),
 [.tmp 2]⟩
theorem xf54_ok : cmF Tryz.prog Tryz.f54 = some xf54 := by kernel_rfl
def r55_0 := [xL 2 (.mv (.const .nils))]
def r55_1 := [xM 3 0,
 xM 4 0,
 xL 5 (.len .slice (.slot 4)),
 xM 6 0,
 xL 7 (.len .slice (.slot 6)),
 xL 8 (.slc 1 (.slot 3) none (some (.slot 5)) (some (.slot 7))),
 xM 2 8]
def xf55 : XFunc := ⟨(.seq (.region false r55_0)
 (.seq (.region false r55_1)
 .ret)),
 [.tmp 2]⟩
theorem xf55_ok : cmF Tryz.prog Tryz.f55 = some xf55 := by kernel_rfl
def r56_0 := [xL 4 (.mv (.const (.int .i64 (.ofNat 0))))]
def r56_1 := [xM 6 0,
 xL 7 (.len .slice (.slot 6)),
 xL 8 (.mv (.const (.int .i64 (.ofNat 0))))]
def r56_2 := [xL 9 (.bin .lss 3 .num (.slot 8) (.slot 7))]
def r56_3 := [xM 10 8,
 xM 5 10]
def r56_4 := [xM 11 1,
 xM 12 0,
 xM 13 5,
 xL 14 (.iaddr 1 (.slot 12) (.slot 13)),
 xL 15 (.load false 1 (.slot 14)),
 xL 16 (.call (.slot 11) [(.slot 15)])]
def r56_5 := [xM 17 5,
 xM 4 17]
def r56_6 := [xL 18 (.bin .add 3 .num (.slot 8) (.const (.int .i64 (.ofNat 1)))),
 xM 8 18]
def r56_7 := [xL 4 (.mv (.const (.int .i64 (.negSucc 0))))]
def xf56 : XFunc := ⟨(.seq (.region false r56_0)
 (.seq (.seq (.region false r56_1)
 (.block 0 (.loop (.seq (.region false r56_2)
 (.seq (.cond (.slot 9)
 .skip
 (.exit 0))
 (.seq (.block 1 (.seq (.region false r56_3)
 (.seq (.region false r56_4)
 (.cond (.slot 16)
 (.seq (.region false r56_5)
 .ret)
 .skip))))
 (.region false r56_6)))))))
 (.seq (.region false r56_7)
 .ret))),
 [.tmp 4]⟩
theorem xf56_ok : cmF Tryz.prog Tryz.f56 = some xf56 := by kernel_rfl
def r57_0 := [xL 2 (.mv (.const (.bool false)))]
def r57_1 := [xM 3 0,
 xL 4 (.bin .lss 2 .num (.slot 3) (.const (.int .i64 (.ofNat 0)))),
 xM 2 4]
def xf57 : XFunc := ⟨(.seq (.region false r57_0)
 (.seq (.region false r57_1)
 .ret)),
 [.tmp 2]⟩
theorem xf57_ok : cmF Tryz.prog Tryz.f57 = some xf57 := by kernel_rfl
def r58_0 := [xL 3 (.mv (.const (.int .i64 (.ofNat 0))))]
def r58_1 := [xL 11 (.load false 1 (.slot 1)),
 xL 12 (.nilCheck (.slot 11)),
 xL 13 (.faddr 0 (.slot 12)),
 xL 14 (.load false 1 (.slot 13)),
 xM 15 0,
 xL 16 (.lookup .i64 .nilp (.slot 14) (.slot 15) true),
 xM 10 16,
 xL 17 (.extract (.slot 10) 0),
 xL 18 (.extract (.slot 10) 1),
 xM 4 17,
 xM 5 18]
def r58_2 := [xM 19 5,
 xL 20 (.un .not (.slot 19))]
def r58_3 := [xL 3 (.mv (.const (.int .i64 (.ofNat 2))))]
def r58_4 := [xL 6 (.mv (.const (.int .i32 (.ofNat 0))))]
def r58_5 := [xM 21 4,
 xL 22 (.nilCheck (.slot 21)),
 xL 23 (.faddr 1 (.slot 22)),
 xL 24 (.load false 1 (.slot 23)),
 xL 25 (.len .slice (.slot 24)),
 xL 26 (.mv (.const (.int .i64 (.ofNat 0))))]
def r58_6 := [xL 27 (.bin .lss 3 .num (.slot 26) (.slot 25))]
def r58_7 := [xL 28 (.iaddr 1 (.slot 24) (.slot 26)),
 xL 29 (.load false 1 (.slot 28)),
 xM 8 29]
def r58_8 := [xL 30 (.load false 1 (.slot 1)),
 xM 31 8,
 xL 32 (.call (.const (.func 59 [] [])) [(.slot 30),(.slot 31)]),
 xM 9 32]
def r58_9 := [xM 34 9,
 xL 35 (.bin .eql 100 .num (.slot 34) (.const (.int .i8 (.ofNat 1)))),
 xM 33 35]
def r58_10 := [xM 36 9,
 xL 37 (.bin .eql 100 .num (.slot 36) (.const (.int .i8 (.ofNat 0)))),
 xM 38 37,
 ⟨⟨.mv (.slot 6),some 39,some (38,true)⟩,[]⟩,
 ⟨⟨.bin .neq 40 .num (.slot 39) (.const (.int .i32 (.ofNat 0))),some 40,some (38,true)⟩,[]⟩,
 xL 41 (.pick (.slot 38) (.slot 40) (.const (.bool false))),
 xM 33 41]
def r58_11 := [xL 3 (.mv (.const (.int .i64 (.ofNat 2))))]
def r58_12 := [xM 43 9,
 xL 44 (.bin .eql 100 .num (.slot 43) (.const (.int .i8 (.ofNat 0)))),
 xM 42 44]
def r58_13 := [xM 45 8,
 xM 6 45]
def r58_14 := [xL 46 (.bin .add 3 .num (.slot 26) (.const (.int .i64 (.ofNat 1)))),
 xM 26 46]
def r58_15 := [xM 47 6,
 xL 48 (.bin .eql 40 .num (.slot 47) (.const (.int .i32 (.ofNat 0))))]
def r58_16 := [xL 3 (.mv (.const (.int .i64 (.ofNat 1))))]
def r58_17 := [xL 49 (.load false 1 (.slot 1)),
 xM 50 6,
 xL 51 (.call (.const (.func 39 [] [])) [(.slot 49),(.slot 50)])]
def r58_18 := [xL 3 (.mv (.const (.int .i64 (.ofNat 0))))]
def xf58 : XFunc := ⟨(.seq (.region false r58_0)
 (.seq (.region false r58_1)
 (.seq (.seq (.region false r58_2)
 (.cond (.slot 20)
 (.seq (.region false r58_3)
 .ret)
 .skip))
 (.seq (.region false r58_4)
 (.seq (.seq (.region false r58_5)
 (.block 0 (.loop (.seq (.region false r58_6)
 (.seq (.cond (.slot 27)
 .skip
 (.exit 0))
 (.seq (.block 1 (.seq (.region false r58_7)
 (.seq (.region false r58_8)
 (.block 2 (.seq (.seq (.region false r58_9)
 (.cond (.slot 33)
 .skip
 (.region false r58_10)))
 (.cond (.slot 33)
 (.seq (.region false r58_11)
 .ret)
 (.seq (.region false r58_12)
 (.cond (.slot 42)
 (.region false r58_13)
 .skip))))))))
 (.region false r58_14)))))))
 (.seq (.seq (.region false r58_15)
 (.cond (.slot 48)
 (.seq (.region false r58_16)
 .ret)
 .skip))
 (.seq (.region false r58_17)
 (.seq (.region false r58_18)
 .ret)))))))),
 [.tmp 3]⟩
theorem xf58_ok : cmF Tryz.prog Tryz.f58 = some xf58 := by kernel_rfl
def r59_0 := [xL 4 (.mv (.const (.int .i8 (.ofNat 0))))]
def r59_1 := [xM 6 1,
 xL 7 (.call (.const (.func 33 [] [])) [(.slot 6)]),
 xM 5 7]
def r59_2 := [xM 8 5,
 xM 9 0,
 xL 10 (.nilCheck (.slot 9)),
 xL 11 (.faddr 4 (.slot 10)),
 xL 12 (.load false 1 (.slot 11)),
 xL 13 (.len .slice (.slot 12)),
 xL 14 (.bin .geq 3 .num (.slot 8) (.slot 13))]
def r59_3 := [xL 4 (.mv (.const (.int .i8 (.ofNat 0))))]
def r59_4 := [xM 15 1,
 xL 16 (.bin .lss 40 .num (.slot 15) (.const (.int .i32 (.ofNat 0))))]
def r59_5 := [xM 17 0,
 xL 18 (.nilCheck (.slot 17)),
 xL 19 (.faddr 4 (.slot 18)),
 xL 20 (.load false 1 (.slot 19)),
 xM 21 5,
 xL 22 (.iaddr 1 (.slot 20) (.slot 21)),
 xL 23 (.load false 1 (.slot 22)),
 xL 24 (.un .neg (.slot 23)),
 xM 4 24]
def r59_6 := [xM 25 0,
 xL 26 (.nilCheck (.slot 25)),
 xL 27 (.faddr 4 (.slot 26)),
 xL 28 (.load false 1 (.slot 27)),
 xM 29 5,
 xL 30 (.iaddr 1 (.slot 28) (.slot 29)),
 xL 31 (.load false 1 (.slot 30)),
 xM 4 31]
def xf59 : XFunc := ⟨(.seq (.region false r59_0)
 (.seq (.region false r59_1)
 (.seq (.seq (.region false r59_2)
 (.cond (.slot 14)
 (.seq (.region false r59_3)
 .ret)
 .skip))
 (.seq (.seq (.region false r59_4)
 (.cond (.slot 16)
 (.seq (.region false r59_5)
 .ret)
 .skip))
 (.seq (.region false r59_6)
 .ret))))),
 [.tmp 4]⟩
theorem xf59_ok : cmF Tryz.prog Tryz.f59 = some xf59 := by kernel_rfl
def r60_0 := [xL 4 (.mv (.const (.bool false)))]
def r60_1 := [xM 5 0,
 xM 6 1,
 xL 7 (.call (.const (.func 73 [] [])) [(.slot 5),(.slot 6)]),
 xL 8 (.bin .geq 3 .num (.slot 7) (.const (.int .i64 (.ofNat 0)))),
 xM 4 8]
def xf60 : XFunc := ⟨(.seq (.region false r60_0)
 (.seq (.region false r60_1)
 .ret)),
 [.tmp 4]⟩
theorem xf60_ok : cmF Tryz.prog Tryz.f60 = some xf60 := by kernel_rfl
def r61_0 := [xL 4 (.box (.slot 0)),
 xL 8 (.mv (.const (.int .i64 (.ofNat 0))))]
def r61_1 := [xL 14 (.load false 1 (.slot 4)),
 xL 15 (.nilCheck (.slot 14)),
 xL 16 (.faddr 5 (.slot 15)),
 xL 17 (.load false 1 (.slot 16)),
 xL 18 (.len .slice (.slot 17)),
 xL 9 (.alloc [(.int .i64 (.ofNat 0))]),
 ⟨⟨.store 1 (.slot 9) (.slot 18),none,none⟩,[]⟩]
def r61_2 := [xL 19 (.mkfunc 74 [] [(.slot 4),(.slot 9)]),
 ⟨⟨.defer (.slot 19) [],none,none⟩,[]⟩]
def r61_3 := [xM 20 1,
 xL 21 (.nilCheck (.slot 20)),
 xL 22 (.faddr 1 (.slot 21)),
 xL 23 (.load false 1 (.slot 22)),
 xL 24 (.len .slice (.slot 23)),
 xL 25 (.mv (.const (.int .i64 (.ofNat 0))))]
def r61_4 := [xL 26 (.bin .lss 3 .num (.slot 25) (.slot 24))]
def r61_5 := [xL 27 (.iaddr 1 (.slot 23) (.slot 25)),
 xL 28 (.load false 1 (.slot 27)),
 xM 11 28]
def r61_6 := [xM 29 11,
 xM 30 2,
 xL 31 (.un .neg (.slot 30)),
 xL 32 (.bin .neq 40 .num (.slot 29) (.slot 31)),
 xM 33 32,
 ⟨⟨.load false 1 (.slot 4),some 34,some (33,true)⟩,[]⟩,
 ⟨⟨.mv (.slot 11),some 35,some (33,true)⟩,[]⟩,
 ⟨⟨.call (.const (.func 59 [] [])) [(.slot 34),(.slot 35)],some 36,some (33,true)⟩,[]⟩,
 ⟨⟨.bin .eql 100 .num (.slot 36) (.const (.int .i8 (.ofNat 1))),some 37,some (33,true)⟩,[]⟩,
 ⟨⟨.mv (.slot 37),some 38,some (33,true)⟩,[]⟩,
 ⟨⟨.mv (.slot 1),some 39,some (38,false)⟩,[]⟩,
 ⟨⟨.nilCheck (.slot 39),some 40,some (38,false)⟩,[]⟩,
 ⟨⟨.faddr 2 (.slot 40),some 41,some (38,false)⟩,[]⟩,
 ⟨⟨.load false 1 (.slot 41),some 42,some (38,false)⟩,[]⟩,
 ⟨⟨.mv (.slot 42),some 43,some (38,false)⟩,[]⟩,
 ⟨⟨.mv (.slot 1),some 44,some (43,true)⟩,[]⟩,
 ⟨⟨.nilCheck (.slot 44),some 45,some (43,true)⟩,[]⟩,
 ⟨⟨.faddr 1 (.slot 45),some 46,some (43,true)⟩,[]⟩,
 ⟨⟨.load false 1 (.slot 46),some 47,some (43,true)⟩,[]⟩,
 ⟨⟨.mv (.slot 11),some 48,some (43,true)⟩,[]⟩,
 ⟨⟨.un .neg (.slot 48),some 49,some (43,true)⟩,[]⟩,
 ⟨⟨.call (.const (.func 60 [] [])) [(.slot 47),(.slot 49)],some 50,some (43,true)⟩,[]⟩,
 ⟨⟨.pick (.slot 43) (.slot 50) (.const (.bool false)),some 51,some (38,false)⟩,[]⟩,
 ⟨⟨.pick (.slot 38) (.const (.bool true)) (.slot 51),some 52,some (33,true)⟩,[]⟩,
 xL 53 (.pick (.slot 33) (.slot 52) (.const (.bool false)))]
def r61_7 := [xL 8 (.mv (.const (.int .i64 (.ofNat 0))))]
def r61_8 := [xL 54 (.bin .add 3 .num (.slot 25) (.const (.int .i64 (.ofNat 1)))),
 xM 25 54]
def r61_9 := [xM 55 1,
 xL 56 (.nilCheck (.slot 55)),
 xL 57 (.faddr 1 (.slot 56)),
 xL 58 (.load false 1 (.slot 57)),
 xL 59 (.len .slice (.slot 58)),
 xL 60 (.mv (.const (.int .i64 (.ofNat 0))))]
def r61_10 := [xL 61 (.bin .lss 3 .num (.slot 60) (.slot 59))]
def r61_11 := [xL 62 (.iaddr 1 (.slot 58) (.slot 60)),
 xL 63 (.load false 1 (.slot 62)),
 xM 13 63]
def r61_12 := [xM 64 13,
 xM 65 2,
 xL 66 (.un .neg (.slot 65)),
 xL 67 (.bin .neq 40 .num (.slot 64) (.slot 66)),
 xM 68 67,
 ⟨⟨.load false 1 (.slot 4),some 69,some (68,true)⟩,[]⟩,
 ⟨⟨.mv (.slot 13),some 70,some (68,true)⟩,[]⟩,
 ⟨⟨.call (.const (.func 59 [] [])) [(.slot 69),(.slot 70)],some 71,some (68,true)⟩,[]⟩,
 ⟨⟨.bin .eql 100 .num (.slot 71) (.const (.int .i8 (.ofNat 0))),some 72,some (68,true)⟩,[]⟩,
 xL 73 (.pick (.slot 68) (.slot 72) (.const (.bool false)))]
def r61_13 := [xL 74 (.load false 1 (.slot 4)),
 xM 75 13,
 xL 76 (.un .neg (.slot 75)),
 xL 77 (.call (.const (.func 39 [] [])) [(.slot 74),(.slot 76)])]
def r61_14 := [xL 78 (.bin .add 3 .num (.slot 60) (.const (.int .i64 (.ofNat 1)))),
 xM 60 78]
def r61_15 := [xL 79 (.load false 1 (.slot 4)),
 xM 80 3,
 xL 81 (.call (.const (.func 41 [] [])) [(.slot 79),(.slot 80)])]
def r61_16 := [xL 83 (.bin .eql 81 .num (.slot 81) (.const (.int .i64 (.ofNat 2)))),
 xM 82 83]
def r61_17 := [xL 8 (.mv (.const (.int .i64 (.ofNat 60))))]
def r61_18 := [xL 85 (.bin .eql 81 .num (.slot 81) (.const (.int .i64 (.ofNat 0)))),
 xM 84 85]
def r61_19 := [xL 8 (.mv (.const (.int .i64 (.ofNat 61))))]
def r61_20 := [xL 8 (.mv (.const (.int .i64 (.ofNat 0))))]
def xf61 : XFunc := ⟨(.seq (.region false r61_0)
 (.seq (.region false r61_1)
 (.seq (.region false r61_2)
 (.seq (.seq (.region false r61_3)
 (.block 0 (.loop (.seq (.region false r61_4)
 (.seq (.cond (.slot 26)
 .skip
 (.exit 0))
 (.seq (.block 1 (.seq (.region false r61_5)
 (.seq (.region false r61_6)
 (.cond (.slot 53)
 (.seq (.region false r61_7)
 .ret)
 .skip))))
 (.region false r61_8)))))))
 (.seq (.seq (.region false r61_9)
 (.block 2 (.loop (.seq (.region false r61_10)
 (.seq (.cond (.slot 61)
 .skip
 (.exit 2))
 (.seq (.block 3 (.seq (.region false r61_11)
 (.seq (.region false r61_12)
 (.cond (.slot 73)
 (.region false r61_13)
 .skip))))
 (.region false r61_14)))))))
 (.seq (.seq (.region false r61_15)
 (.block 4 (.seq (.region false r61_16)
 (.cond (.slot 82)
 (.seq (.region false r61_17)
 .ret)
 (.seq (.region false r61_18)
 (.cond (.slot 84)
 (.seq (.region false r61_19)
 .ret)
 .skip))))))
 (.seq (.region false r61_20)
 .ret))))))),
 [.tmp 8]⟩
theorem xf61_ok : cmF Tryz.prog Tryz.f61 = some xf61 := by kernel_rfl
end Go.Proofs.YtmkbnbpblhoekaaGreat

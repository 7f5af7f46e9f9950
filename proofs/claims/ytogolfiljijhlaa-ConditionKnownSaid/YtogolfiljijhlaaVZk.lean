/- The closed law's code, gone through in pieces by X in the kernel: printed by a program of ours. -/
import Derived.Test.YtogolfiljijhlaaW3
import Derived.Test.YtogolfiljijhlaaW4
import Derived.Test.YtogolfiljijhlaaVYl
import Derived.Test.YtogolfiljijhlaaVYq
import Derived.KernelRfl
namespace Go.Proofs.Ytogolfiljijhlaa
open Go.Xr
noncomputable def B1 : Task → Option Out := baseR
theorem B1_ok [RoLim] : Sound Try.prog B1 := show Sound Try.prog baseR from baseR_eq ▸ baseHook_ok
noncomputable def D0 : Task → Option Out := evG xprog (hooksG xprog B1 100000 3) 100000 100000
theorem D0_ok [RoLim] : Sound Try.prog D0 := evG_sound (by kernel_rfl) xprog_ok (hooksG_sound (by kernel_rfl) xprog_ok B1_ok 3) 100000
noncomputable def B2 : Task → Option Out := orElse B1 (forkHook xprog D0 [5] [5, 20, 45, 46] 100000)
theorem B2_ok [RoLim] : Sound Try.prog B2 := orElse_sound B1_ok (forkHook_sound xprog_ok D0_ok)
noncomputable def E0 : Task → Option Out := evG xprog (hooksG xprog B2 100000 3) 100000 100000
theorem E_ok [RoLim] : Sound Try.prog E0 := evG_sound (by kernel_rfl) xprog_ok (hooksG_sound (by kernel_rfl) xprog_ok B2_ok 3) 100000
def c0 : XCode := xf3.code
def c1 : XCode := c0.a1
noncomputable def st2 : Tr V := mkT [(0, (.bool false))]
noncomputable def hp2 : Heap := mkH [] 0
theorem r2 [RoLim] : Runs Try.prog c1 .lf ⟨.lf, 0⟩ .normal st2 hp2 := runs_leaf E_ok (by kernel_rfl)      -- 0 ms
def c3 : XCode := c0.a2
def c4 : XCode := c3.a1
noncomputable def st5 : Tr V := mkT [(0, (.bool false)), (1, (.ptr 9 0 0)), (27, .any), (25, .any), (24, .any), (28, .any), (26, .any)]
noncomputable def hp5 : Heap := mkH [(7, (.map .i32 [((.negSucc 2), (.map 17)), ((.negSucc 1), (.map 13)), ((.negSucc 0), (.map 16)), ((.ofNat 1), (.map 12)), ((.ofNat 2), (.map 20)), ((.ofNat 3), (.map 21))] 6)), (15, (.cells ⟨[(.int .i32 (.negSucc 0)), (.int .i32 (.negSucc 2))], 0, [2], false, 1, true⟩)), (11, (.cells ⟨[(.int .i32 (.ofNat 1)), (.int .i32 (.negSucc 1))], 0, [2], false, 1, true⟩)), (19, (.cells ⟨[(.int .i32 (.ofNat 2)), (.int .i32 (.ofNat 3))], 0, [2], false, 1, true⟩)), (9, (.cells ⟨[(.int .i64 (.ofNat 3)), (.map 6), (.map 7), (.map 8), (.int .i64 (.ofNat 3)), .nils, .nils, .nils], 0, [8], false, 1, false⟩)), (17, (.map .i64 [((.ofNat 2), (.bool true))] 1)), (13, (.map .i64 [((.ofNat 1), (.bool true))] 1)), (21, (.map .i64 [((.ofNat 3), (.bool true))] 1)), (8, (.map .i64 [] 0)), (16, (.map .i64 [((.ofNat 2), (.bool true))] 1)), (12, (.map .i64 [((.ofNat 1), (.bool true))] 1)), (20, (.map .i64 [((.ofNat 3), (.bool true))] 1)), (6, (.map .i64 [((.ofNat 1), (.agg [(.int .i64 (.ofNat 1)), (.slice 11 0 0 2 (.rest 0 1)), (.bool false)])), ((.ofNat 2), (.agg [(.int .i64 (.ofNat 2)), (.slice 15 0 0 2 (.rest 0 1)), (.bool false)])), ((.ofNat 3), (.agg [(.int .i64 (.ofNat 3)), (.slice 19 0 0 2 (.rest 0 1)), (.bool false)]))] 3))] 22
theorem r5 [RoLim] : Runs Try.prog c4 st2 hp2 .normal st5 hp5 := runs_leaf E_ok (by kernel_rfl)      -- 5 ms
def c6 : XCode := c3.a2
def c7 : XCode := c6.a1
noncomputable def st8 : Tr V := mkT [(0, (.bool false)), (1, (.ptr 9 0 0)), (3, (.int .i64 (.ofNat 0))), (31, .any), (27, .any), (33, .any), (25, .any), (29, .any), (2, (.int .i64 (.ofNat 0))), (32, .any), (24, .any), (28, .any), (34, .any), (26, .any), (30, .any)]
noncomputable def hp8 : Heap := mkH [(7, (.map .i32 [((.negSucc 2), (.map 17)), ((.negSucc 1), (.map 13)), ((.negSucc 0), (.map 16)), ((.ofNat 1), (.map 12)), ((.ofNat 2), (.map 20)), ((.ofNat 3), (.map 21))] 6)), (15, (.cells ⟨[(.int .i32 (.negSucc 0)), (.int .i32 (.negSucc 2))], 0, [2], false, 1, true⟩)), (11, (.cells ⟨[(.int .i32 (.ofNat 1)), (.int .i32 (.negSucc 1))], 0, [2], false, 1, true⟩)), (19, (.cells ⟨[(.int .i32 (.ofNat 2)), (.int .i32 (.ofNat 3))], 0, [2], false, 1, true⟩)), (9, (.cells ⟨[(.int .i64 (.ofNat 3)), (.map 6), (.map 7), (.map 8), (.int .i64 (.ofNat 3)), .nils, .nils, .nils], 0, [8], false, 1, false⟩)), (17, (.map .i64 [((.ofNat 2), (.bool true))] 1)), (13, (.map .i64 [((.ofNat 1), (.bool true))] 1)), (21, (.map .i64 [((.ofNat 3), (.bool true))] 1)), (8, (.map .i64 [] 0)), (16, (.map .i64 [((.ofNat 2), (.bool true))] 1)), (12, (.map .i64 [((.ofNat 1), (.bool true))] 1)), (20, (.map .i64 [((.ofNat 3), (.bool true))] 1)), (6, (.map .i64 [((.ofNat 1), (.agg [(.int .i64 (.ofNat 1)), (.slice 11 0 0 2 (.rest 0 1)), (.bool false)])), ((.ofNat 2), (.agg [(.int .i64 (.ofNat 2)), (.slice 15 0 0 2 (.rest 0 1)), (.bool false)])), ((.ofNat 3), (.agg [(.int .i64 (.ofNat 3)), (.slice 19 0 0 2 (.rest 0 1)), (.bool false)]))] 3))] 346
theorem r8 [RoLim] : Runs Try.prog c7 st5 hp5 .normal st8 hp8 := runs_leaf E_ok (by kernel_rfl)      -- 54 ms
def c9 : XCode := c6.a2
noncomputable def st10 : Tr V := mkT [(0, (.bool true)), (1, .any), (3, .any), (7, .any), (15, .any), (31, .any), (63, .any), (127, .any), (95, .any), (159, .any), (47, .any), (79, .any), (143, .any), (111, .any), (175, .any), (23, .any), (39, .any), (71, .any), (135, .any), (103, .any), (167, .any), (55, .any), (87, .any), (151, .any), (119, .any), (183, .any), (11, .any), (19, .any), (35, .any), (67, .any), (131, .any), (99, .any), (163, .any), (51, .any), (83, .any), (147, .any), (115, .any), (179, .any), (27, .any), (43, .any), (75, .any), (139, .any), (107, .any), (171, .any), (59, .any), (91, .any), (155, .any), (123, .any), (187, .any), (5, .any), (9, .any), (17, .any), (33, .any), (65, .any), (129, .any), (97, .any), (161, .any), (49, .any), (81, .any), (145, .any), (113, .any), (177, .any), (25, .any), (41, .any), (73, .any), (137, .any), (105, .any), (169, .any), (57, .any), (89, .any), (153, .any), (121, .any), (185, .any), (13, .any), (21, .any), (37, .any), (69, .any), (133, .any), (101, .any), (165, .any), (53, .any), (85, .any), (149, .any), (117, .any), (181, .any), (29, .any), (45, .any), (77, .any), (141, .any), (109, .any), (173, .any), (61, .any), (93, .any), (157, .any), (125, .any), (2, .any), (4, .any), (8, .any), (16, .any), (32, .any), (64, .any), (128, .any), (96, .any), (160, .any), (48, .any), (80, .any), (144, .any), (112, .any), (176, .any), (24, .any), (40, .any), (72, .any), (136, .any), (104, .any), (168, .any), (56, .any), (88, .any), (152, .any), (120, .any), (184, .any), (12, .any), (20, .any), (36, .any), (68, .any), (132, .any), (100, .any), (164, .any), (52, .any), (84, .any), (148, .any), (116, .any), (180, .any), (28, .any), (44, .any), (76, .any), (140, .any), (108, .any), (172, .any), (60, .any), (92, .any), (156, .any), (124, .any), (6, .any), (10, .any), (18, .any), (34, .any), (66, .any), (130, .any), (98, .any), (162, .any), (50, .any), (82, .any), (146, .any), (114, .any), (178, .any), (26, .any), (42, .any), (74, .any), (138, .any), (106, .any), (170, .any), (58, .any), (90, .any), (154, .any), (122, .any), (186, .any), (14, .any), (22, .any), (38, .any), (70, .any), (134, .any), (102, .any), (166, .any), (54, .any), (86, .any), (150, .any), (118, .any), (182, .any), (30, .any), (46, .any), (78, .any), (142, .any), (110, .any), (174, .any), (62, .any), (94, .any), (158, .any), (126, .any)]
noncomputable def hp10 : Heap := mkH [] 1252
theorem r10 [RoLim] : Runs Try.prog c9 st8 hp8 .ret st10 hp10 := runs_leaf E_ok (by kernel_rfl)      -- 276 ms
theorem r11 [RoLim] : Runs Try.prog c6 st5 hp5 .ret st10 hp10 := runs_seq (a := c7) (b := c9) (by kernel_rfl) r8 r10
theorem r12 [RoLim] : Runs Try.prog c3 st2 hp2 .ret st10 hp10 := runs_seq (a := c4) (b := c6) (by kernel_rfl) r5 r11
theorem r13 [RoLim] : Runs Try.prog c0 .lf ⟨.lf, 0⟩ .ret st10 hp10 := runs_seq (a := c1) (b := c3) (by kernel_rfl) r2 r12
theorem told_true : TrueAt Try.prog 3 := true_of_runs Try.func3 (fun e => absurd (beq_iff_eq.2 e) (by decide)) xf3_ok (e := .ret) (t1 := st10) (h1 := hp10) rfl (@r13 ⟨0⟩) (by kernel_rfl)
end Go.Proofs.Ytogolfiljijhlaa

/- The closed law's code, gone through in pieces by X in the kernel: printed by a program of ours. -/
import Derived.Test.YtaljkapnfkbdbaaW3
import Derived.Test.YtaljkapnfkbdbaaW4
import Derived.Test.YtaljkapnfkbdbaaVYl
import Derived.Test.YtaljkapnfkbdbaaVYq
import Derived.KernelRfl
namespace Go.Proofs.Ytaljkapnfkbdbaa
open Go.Xr
noncomputable def B1 : Task → Option Out := baseR
theorem B1_ok [RoLim] : Sound Try.prog B1 := show Sound Try.prog baseR from baseR_eq ▸ baseHook_ok
noncomputable def D0 : Task → Option Out := evG xprog (hooksG xprog B1 100000 3) 100000 100000
theorem D0_ok [RoLim] : Sound Try.prog D0 := evG_sound (by kernel_rfl) xprog_ok (hooksG_sound (by kernel_rfl) xprog_ok B1_ok 3) 100000
noncomputable def B2 : Task → Option Out := orElse B1 (forkHook xprog D0 [32] [32] 100000)
theorem B2_ok [RoLim] : Sound Try.prog B2 := orElse_sound B1_ok (forkHook_sound xprog_ok D0_ok)
noncomputable def E0 : Task → Option Out := evG xprog (hooksG xprog B2 100000 3) 100000 100000
theorem E_ok [RoLim] : Sound Try.prog E0 := evG_sound (by kernel_rfl) xprog_ok (hooksG_sound (by kernel_rfl) xprog_ok B2_ok 3) 100000
def c0 : XCode := xf3.code
noncomputable def st1 : Tr V := mkT [(0, (.bool true)), (1, .any), (3, .any), (7, .any), (15, .any), (31, .any), (63, .any), (127, .any), (191, .any), (95, .any), (159, .any), (47, .any), (79, .any), (143, .any), (111, .any), (175, .any), (23, .any), (39, .any), (71, .any), (135, .any), (103, .any), (167, .any), (55, .any), (87, .any), (151, .any), (119, .any), (183, .any), (11, .any), (19, .any), (35, .any), (67, .any), (131, .any), (195, .any), (99, .any), (163, .any), (51, .any), (83, .any), (147, .any), (115, .any), (179, .any), (27, .any), (43, .any), (75, .any), (139, .any), (107, .any), (171, .any), (59, .any), (91, .any), (155, .any), (123, .any), (187, .any), (5, .any), (9, .any), (17, .any), (33, .any), (65, .any), (129, .any), (193, .any), (97, .any), (161, .any), (49, .any), (81, .any), (145, .any), (113, .any), (177, .any), (25, .any), (41, .any), (73, .any), (137, .any), (105, .any), (169, .any), (57, .any), (89, .any), (153, .any), (121, .any), (185, .any), (13, .any), (21, .any), (37, .any), (69, .any), (133, .any), (101, .any), (165, .any), (53, .any), (85, .any), (149, .any), (117, .any), (181, .any), (29, .any), (45, .any), (77, .any), (141, .any), (109, .any), (173, .any), (61, .any), (93, .any), (157, .any), (125, .any), (189, .any), (2, .any), (4, .any), (8, .any), (16, .any), (32, .any), (64, .any), (128, .any), (192, .any), (96, .any), (160, .any), (48, .any), (80, .any), (144, .any), (112, .any), (176, .any), (24, .any), (40, .any), (72, .any), (136, .any), (104, .any), (168, .any), (56, .any), (88, .any), (152, .any), (120, .any), (184, .any), (12, .any), (20, .any), (36, .any), (68, .any), (132, .any), (100, .any), (164, .any), (52, .any), (84, .any), (148, .any), (116, .any), (180, .any), (28, .any), (44, .any), (76, .any), (140, .any), (108, .any), (172, .any), (60, .any), (92, .any), (156, .any), (124, .any), (188, .any), (6, .any), (10, .any), (18, .any), (34, .any), (66, .any), (130, .any), (194, .any), (98, .any), (162, .any), (50, .any), (82, .any), (146, .any), (114, .any), (178, .any), (26, .any), (42, .any), (74, .any), (138, .any), (106, .any), (170, .any), (58, .any), (90, .any), (154, .any), (122, .any), (186, .any), (14, .any), (22, .any), (38, .any), (70, .any), (134, .any), (102, .any), (166, .any), (54, .any), (86, .any), (150, .any), (118, .any), (182, .any), (30, .any), (46, .any), (78, .any), (142, .any), (110, .any), (174, .any), (62, .any), (94, .any), (158, .any), (126, .any), (190, .any)]
noncomputable def hp1 : Heap := mkH [] 790
theorem r1 [RoLim] : Runs Try.prog c0 .lf ⟨.lf, 0⟩ .ret st1 hp1 := runs_leaf E_ok (by kernel_rfl)      -- 213 ms
theorem told_true : TrueAt Try.prog 3 := true_of_runs Try.func3 (fun e => absurd (beq_iff_eq.2 e) (by decide)) xf3_ok (e := .ret) (t1 := st1) (h1 := hp1) rfl (@r1 ⟨0⟩) (by kernel_rfl)
end Go.Proofs.Ytaljkapnfkbdbaa

/- The closed law's code, gone through in pieces by X in the kernel: printed by a program of ours. -/
import Derived.Test.YtpbijmmjcdejoaaGreatW4
import Derived.Test.YtpbijmmjcdejoaaGreatVYl
import Derived.Test.YtpbijmmjcdejoaaGreatVYq
import Derived.KernelRfl
namespace Go.Proofs.YtpbijmmjcdejoaaGreat
open Go.Xr
noncomputable def E0 : Task → Option Out := evG xprog (hooksG xprog baseR 100000 3) 100000 100000
theorem E_ok [RoLim] : Sound Tryz.prog E0 := evG_sound (by kernel_rfl) xprog_ok (hooksG_sound (by kernel_rfl) xprog_ok (by rw [baseR_eq]; exact baseHook_ok) 3) 100000
def c0 : XCode := xf4.code
noncomputable def st1 : Tr V := mkT [(0, (.bool true)), (1, .any), (3, .any), (7, .any), (5, .any), (2, .any), (4, .any), (6, .any)]
noncomputable def hp1 : Heap := mkH [] 369
theorem r1 [RoLim] : Runs Tryz.prog c0 .lf ⟨.lf, 0⟩ .ret st1 hp1 := runs_leaf E_ok (by kernel_rfl)      -- 138 ms
theorem told_true : TrueAt Tryz.prog 4 := true_of_runs Tryz.func4 (fun e => absurd (beq_iff_eq.2 e) (by decide)) xf4_ok (e := .ret) (t1 := st1) (h1 := hp1) rfl (@r1 ⟨0⟩) (by kernel_rfl)
end Go.Proofs.YtpbijmmjcdejoaaGreat

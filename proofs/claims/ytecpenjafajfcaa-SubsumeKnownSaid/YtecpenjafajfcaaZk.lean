/- The closed law 'SubsumeKnown', run by X in the kernel. -/
import Derived.Test.YtecpenjafajfcaaYl
import Derived.Test.YtecpenjafajfcaaYq
import Derived.KernelRfl
namespace Go.Proofs.Ytecpenjafajfcaa
open Go.Xr
theorem known_toldR : told (evR xprog (hooksR xprog baseR 100000 3) 100000 (.call false 3 [] ⟨.lf, 0⟩)) = some true := by kernel_rfl
theorem known_told : told (ev xprog (hooks xprog baseHook 100000 3) 100000 (.call false 3 [] ⟨.lf, 0⟩)) = some true := by
  have h := known_toldR
  rw [evR_eq, hooksR_eq, baseR_eq] at h
  exact h
end Go.Proofs.Ytecpenjafajfcaa

/- The closed law 'TransredKnown', run by X in the kernel. -/
import Derived.Test.YtljgcmlfcacpkaaYl
import Derived.Test.YtljgcmlfcacpkaaYq
import Derived.KernelRfl
namespace Go.Proofs.Ytljgcmlfcacpkaa
open Go.Xr
theorem known_told : told (ev xprog (hooks xprog baseHook 100000 3) 100000 (.call false 3 [] ⟨.lf, 0⟩)) = some true := by kernel_rfl
end Go.Proofs.Ytljgcmlfcacpkaa

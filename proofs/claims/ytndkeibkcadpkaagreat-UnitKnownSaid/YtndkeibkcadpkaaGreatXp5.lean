/- The functions of the program in X's code, printed by a program of ours; each is what the program's own is turned to. -/
import Derived.Test.YtndkeibkcadpkaaGreatProg
import Derived.Test.YtndkeibkcadpkaaGreatXc
import Derived.KernelRfl
namespace Go.Proofs.YtndkeibkcadpkaaGreat
open Go.Xr
/-- (threshing/unit.ids).Swap -/
def xf130 : XFunc := ⟨(.region true [⟨⟨.mv (.slot 0), some 6, none⟩, []⟩,
    ⟨⟨.mv (.slot 1), some 7, none⟩, []⟩,
    ⟨⟨.mv (.slot 0), some 8, none⟩, []⟩,
    ⟨⟨.mv (.slot 2), some 9, none⟩, []⟩,
    ⟨⟨.mv (.slot 0), some 10, none⟩, []⟩,
    ⟨⟨.mv (.slot 2), some 11, none⟩, []⟩,
    ⟨⟨.iaddr 1 (.slot 10) (.slot 11), some 12, none⟩, []⟩,
    ⟨⟨.load false 1 (.slot 12), some 13, none⟩, []⟩,
    ⟨⟨.mv (.slot 0), some 14, none⟩, []⟩,
    ⟨⟨.mv (.slot 1), some 15, none⟩, []⟩,
    ⟨⟨.iaddr 1 (.slot 14) (.slot 15), some 16, none⟩, []⟩,
    ⟨⟨.load false 1 (.slot 16), some 17, none⟩, []⟩,
    ⟨⟨.iaddr 1 (.slot 6) (.slot 7), some 18, none⟩, []⟩,
    ⟨⟨.store 1 (.slot 18) (.slot 13), none, none⟩, []⟩,
    ⟨⟨.iaddr 1 (.slot 8) (.slot 9), some 19, none⟩, []⟩,
    ⟨⟨.store 1 (.slot 19) (.slot 17), none, none⟩, []⟩]),
  []⟩
theorem xf130_ok : compFunc Tryz.prog Tryz.f130 = some xf130 := by kernel_rfl
/-- (*threshing/unit.ids).Pop -/
def xf131 : XFunc := ⟨(.seq (.region false [⟨⟨.mv (.const .nili), some 2, none⟩, []⟩])
  (.seq (.region true [⟨⟨.mv (.slot 0), some 4, none⟩, []⟩,
    ⟨⟨.nilCheck (.slot 4), some 5, none⟩, []⟩,
    ⟨⟨.load false 1 (.slot 5), some 6, none⟩, []⟩,
    ⟨⟨.mv (.slot 0), some 7, none⟩, []⟩,
    ⟨⟨.nilCheck (.slot 7), some 8, none⟩, []⟩,
    ⟨⟨.load false 1 (.slot 8), some 9, none⟩, []⟩,
    ⟨⟨.len .slice (.slot 9), some 10, none⟩, []⟩,
    ⟨⟨.bin .sub 3 .num (.slot 10) (.const (.int .i64 (.ofNat 1))), some 11, none⟩, []⟩,
    ⟨⟨.iaddr 1 (.slot 6) (.slot 11), some 12, none⟩, []⟩,
    ⟨⟨.load false 1 (.slot 12), some 13, none⟩, []⟩,
    ⟨⟨.mv (.slot 13), some 3, none⟩, []⟩])
  (.seq (.region true [⟨⟨.mv (.slot 0), some 14, none⟩, []⟩,
    ⟨⟨.mv (.slot 0), some 15, none⟩, []⟩,
    ⟨⟨.nilCheck (.slot 15), some 16, none⟩, []⟩,
    ⟨⟨.load false 1 (.slot 16), some 17, none⟩, []⟩,
    ⟨⟨.mv (.slot 0), some 18, none⟩, []⟩,
    ⟨⟨.nilCheck (.slot 18), some 19, none⟩, []⟩,
    ⟨⟨.load false 1 (.slot 19), some 20, none⟩, []⟩,
    ⟨⟨.len .slice (.slot 20), some 21, none⟩, []⟩,
    ⟨⟨.bin .sub 3 .num (.slot 21) (.const (.int .i64 (.ofNat 1))), some 22, none⟩, []⟩,
    ⟨⟨.slc 1 (.slot 17) none (some (.slot 22)) none, some 23, none⟩, []⟩,
    ⟨⟨.nilCheck (.slot 14), some 24, none⟩, []⟩,
    ⟨⟨.store 1 (.slot 24) (.slot 23), none, none⟩, []⟩])
  (.seq (.region false [⟨⟨.mv (.slot 3), some 25, none⟩, []⟩,
    ⟨⟨.mkif 2 (.slot 25), some 26, none⟩, []⟩,
    ⟨⟨.mv (.slot 26), some 2, none⟩, []⟩])
  .ret)))),
  [.tmp 2]⟩
theorem xf131_ok : compFunc Tryz.prog Tryz.f131 = some xf131 := by kernel_rfl
/-- (*threshing/unit.ids).Push -/
def xf132 : XFunc := ⟨(.region true [⟨⟨.mv (.slot 0), some 4, none⟩, []⟩,
    ⟨⟨.mv (.slot 0), some 5, none⟩, []⟩,
    ⟨⟨.nilCheck (.slot 5), some 6, none⟩, []⟩,
    ⟨⟨.load false 1 (.slot 6), some 7, none⟩, []⟩,
    ⟨⟨.mv (.slot 1), some 8, none⟩, []⟩,
    ⟨⟨.tassert 2 (.int .i64 (.ofNat 0)) false (.slot 8), some 9, none⟩, []⟩,
    ⟨⟨.bslice 1 [(.int .i64 (.ofNat 0))] [(0, 1, (.slot 9))] 1, some 10, none⟩, [⟨.load false 1 (.slot 6), some 7, none⟩]⟩,
    ⟨⟨.append 1 8 (.slot 7) (.slot 10), some 11, none⟩, []⟩,
    ⟨⟨.nilCheck (.slot 4), some 12, none⟩, []⟩,
    ⟨⟨.store 1 (.slot 12) (.slot 11), none, none⟩, []⟩]),
  []⟩
theorem xf132_ok : compFunc Tryz.prog Tryz.f132 = some xf132 := by kernel_rfl
end Go.Proofs.YtndkeibkcadpkaaGreat

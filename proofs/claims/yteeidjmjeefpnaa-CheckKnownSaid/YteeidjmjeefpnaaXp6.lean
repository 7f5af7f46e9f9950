/- The functions of the program in X's code, printed by a program of ours; each is what the program's own is turned to. -/
import Derived.Test.YteeidjmjeefpnaaProg
import Derived.Test.YteeidjmjeefpnaaXc
import Derived.KernelRfl
namespace Go.Proofs.Yteeidjmjeefpnaa
open Go.Xr
/-- slices.order2Ordered[int64] -/
def xf120 : XFunc := ⟨(.seq (.region false [⟨⟨.mv (.const (.int .i64 (.ofNat 0))), some 8, none⟩, []⟩,
    ⟨⟨.mv (.const (.int .i64 (.ofNat 0))), some 9, none⟩, []⟩])
  (.seq (.seq (.region true [⟨⟨.mv (.slot 0), some 10, none⟩, []⟩,
    ⟨⟨.mv (.slot 2), some 11, none⟩, []⟩,
    ⟨⟨.iaddr 1 (.slot 10) (.slot 11), some 12, none⟩, []⟩,
    ⟨⟨.load false 1 (.slot 12), some 13, none⟩, []⟩,
    ⟨⟨.mv (.slot 0), some 14, none⟩, []⟩,
    ⟨⟨.mv (.slot 1), some 15, none⟩, []⟩,
    ⟨⟨.iaddr 1 (.slot 14) (.slot 15), some 16, none⟩, []⟩,
    ⟨⟨.load false 1 (.slot 16), some 17, none⟩, []⟩,
    ⟨⟨.call (.const (.func 95 [] [])) [(.slot 13), (.slot 17)], some 18, none⟩, []⟩])
  (.cond (.slot 18)
   (.seq (.region false [⟨⟨.mv (.slot 3), some 19, none⟩, []⟩,
     ⟨⟨.nilCheck (.slot 19), some 20, none⟩, []⟩,
     ⟨⟨.load false 1 (.slot 20), some 21, none⟩, []⟩,
     ⟨⟨.bin .add 3 .num (.slot 21) (.const (.int .i64 (.ofNat 1))), some 22, none⟩, []⟩,
     ⟨⟨.nilCheck (.slot 19), some 23, none⟩, []⟩,
     ⟨⟨.store 1 (.slot 23) (.slot 22), none, none⟩, []⟩])
   (.seq (.region false [⟨⟨.mv (.slot 2), some 24, none⟩, []⟩,
     ⟨⟨.mv (.slot 1), some 25, none⟩, []⟩,
     ⟨⟨.mv (.slot 24), some 8, none⟩, []⟩,
     ⟨⟨.mv (.slot 25), some 9, none⟩, []⟩])
   .ret))
   .skip))
  (.seq (.region false [⟨⟨.mv (.slot 1), some 26, none⟩, []⟩,
    ⟨⟨.mv (.slot 2), some 27, none⟩, []⟩,
    ⟨⟨.mv (.slot 26), some 8, none⟩, []⟩,
    ⟨⟨.mv (.slot 27), some 9, none⟩, []⟩])
  .ret))),
  [.tmp 8, .tmp 9]⟩
theorem xf120_ok : compFunc Try.prog Try.f120 = some xf120 := by kernel_rfl
/-- slices.order2CmpFunc[threshing/api.Lit] -/
def xf121 : XFunc := ⟨(.seq (.region false [⟨⟨.mv (.const (.int .i64 (.ofNat 0))), some 10, none⟩, []⟩,
    ⟨⟨.mv (.const (.int .i64 (.ofNat 0))), some 11, none⟩, []⟩])
  (.seq (.seq (.region true [⟨⟨.mv (.slot 4), some 12, none⟩, []⟩,
    ⟨⟨.mv (.slot 0), some 13, none⟩, []⟩,
    ⟨⟨.mv (.slot 2), some 14, none⟩, []⟩,
    ⟨⟨.iaddr 1 (.slot 13) (.slot 14), some 15, none⟩, []⟩,
    ⟨⟨.load false 1 (.slot 15), some 16, none⟩, []⟩,
    ⟨⟨.mv (.slot 0), some 17, none⟩, []⟩,
    ⟨⟨.mv (.slot 1), some 18, none⟩, []⟩,
    ⟨⟨.iaddr 1 (.slot 17) (.slot 18), some 19, none⟩, []⟩,
    ⟨⟨.load false 1 (.slot 19), some 20, none⟩, []⟩,
    ⟨⟨.call (.slot 12) [(.slot 16), (.slot 20)], some 21, none⟩, []⟩,
    ⟨⟨.bin .lss 3 .num (.slot 21) (.const (.int .i64 (.ofNat 0))), some 22, none⟩, []⟩])
  (.cond (.slot 22)
   (.seq (.region false [⟨⟨.mv (.slot 3), some 23, none⟩, []⟩,
     ⟨⟨.nilCheck (.slot 23), some 24, none⟩, []⟩,
     ⟨⟨.load false 1 (.slot 24), some 25, none⟩, []⟩,
     ⟨⟨.bin .add 3 .num (.slot 25) (.const (.int .i64 (.ofNat 1))), some 26, none⟩, []⟩,
     ⟨⟨.nilCheck (.slot 23), some 27, none⟩, []⟩,
     ⟨⟨.store 1 (.slot 27) (.slot 26), none, none⟩, []⟩])
   (.seq (.region false [⟨⟨.mv (.slot 2), some 28, none⟩, []⟩,
     ⟨⟨.mv (.slot 1), some 29, none⟩, []⟩,
     ⟨⟨.mv (.slot 28), some 10, none⟩, []⟩,
     ⟨⟨.mv (.slot 29), some 11, none⟩, []⟩])
   .ret))
   .skip))
  (.seq (.region false [⟨⟨.mv (.slot 1), some 30, none⟩, []⟩,
    ⟨⟨.mv (.slot 2), some 31, none⟩, []⟩,
    ⟨⟨.mv (.slot 30), some 10, none⟩, []⟩,
    ⟨⟨.mv (.slot 31), some 11, none⟩, []⟩])
  .ret))),
  [.tmp 10, .tmp 11]⟩
theorem xf121_ok : compFunc Try.prog Try.f121 = some xf121 := by kernel_rfl
end Go.Proofs.Yteeidjmjeefpnaa

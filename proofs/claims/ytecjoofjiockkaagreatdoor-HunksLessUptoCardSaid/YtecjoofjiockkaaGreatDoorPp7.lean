import Derived.Test.YtecjoofjiockkaaGreatDoorESt
import Derived.Test.YtecjoofjiockkaaGreatDoorPp0
import Derived.Test.YtecjoofjiockkaaGreatDoorPp4
set_option linter.unusedVariables false
set_option linter.unusedSimpArgs false
namespace Go.Proofs.YtecjoofjiockkaaGreatDoor.Pp
open Go.RowKit Go.Proofs.YtecjoofjiockkaaGreatDoor.Ext Go.Proofs.YtecjoofjiockkaaGreatDoorW.PrintWords Go.Proofs.YtecjoofjiockkaaGreatDoorW.PrintLast Go.Proofs.YtecjoofjiockkaaGreatDoorW.PrintMore
attribute [local go_sem] max2_int min2_int max_two min_two max_three min_three max_four min_four
def hunks_ahead.f (a0 : Int) (a1 : Int) : Option (Int) := if a1 > 0 then (some (wrap64 (a0 - 1))) else (some a0)
set_option maxHeartbeats 8000000 in
set_option maxRecDepth 100000 in
theorem hunks_ahead.calls (a0 : Int) (a1 : Int) (r : Int) (w : World) (h : hunks_ahead.f a0 a1 = some r) :
  Calls Tryz.prog 46 #[.int .i64 a0, .int .i64 a1] w fun e w' => e = .returned (.int .i64 r) ∧ Drawn0 w w' := by
 have H := h
 clear h
 unfold hunks_ahead.f at H
 replace H := itG H
 rcases H with ⟨-, c3b0, H⟩ | ⟨-, c3b0, H⟩
 ·obtain rfl := Option.some.inj H
  go_enter Tryz.func46, Tryz.ntmps46
  go_wp2
  go_ret
  exact ⟨eqFin, drawnNow⟩
 obtain rfl := Option.some.inj H
 go_enter Tryz.func46, Tryz.ntmps46
 go_wp2
 go_ret
 exact ⟨eqFin, drawnNow⟩
end Go.Proofs.YtecjoofjiockkaaGreatDoor.Pp

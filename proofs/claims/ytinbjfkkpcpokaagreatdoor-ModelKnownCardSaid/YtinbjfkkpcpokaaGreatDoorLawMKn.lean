/-
  Walk of the law ModelKnown. Conditions: the pinned table lies where it was laid.
-/
import Derived.Test.YtinbjfkkpcpokaaGreatDoorLmC
namespace Go.Proofs.YtinbjfkkpcpokaaGreatDoor
open Go.RowKit

theorem lawMKn_any (w : World) (hu : UsesAt w) : Calls Tryz.prog 3 #[] w fun e w' => e = .returned (.bool true) ∧ Below w.heap.size w w' := by
  have C := Lib.hid (shown_any w hu)
  clear hu
  go_enter Tryz.func3, Tryz.ntmps3
  go_wp2_with fail
  refine C.out.mono ?_
  rintro e w' ⟨rfl, hb⟩
  go_wp2_with fail
  go_ret
  exact ⟨rfl, hb⟩
end Go.Proofs.YtinbjfkkpcpokaaGreatDoor

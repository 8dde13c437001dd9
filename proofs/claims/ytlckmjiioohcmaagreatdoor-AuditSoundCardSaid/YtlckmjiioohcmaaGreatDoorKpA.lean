/-
  No statement is proved here: the beginning of a slice; an operation of a drawn region on its own; what is known, and stays readable whatever is stored into one block. Conditions: as each theorem says.
-/
import Derived.Test.YtlckmjiioohcmaaGreatDoorStA
import Derived.Test.YtlckmjiioohcmaaGreatDoorLib
import Derived.Deep.RegionHeld3
namespace Go.Proofs.YtlckmjiioohcmaaGreatDoor
open Go.RowKit
theorem new_now {x : Ve} (h : (newA x).2 = 0) : (newA x).1.now = 0 := by
 unfold newA at h ⊢
 split at h
 ·rename_i h9; exact absurd h h9
 ·rename_i h9; rw [if_neg h9]
end Go.Proofs.YtlckmjiioohcmaaGreatDoor

/-
  The plain law of AuditParts: the faults of a beginning of a record are the first ones of it. Conditions: as each theorem says.
-/
import Derived.Test.YtlckmjiioohcmaaGreatDoorPlOne
namespace Go.Proofs.YtlckmjiioohcmaaGreatDoor
open Go.RowKit
def PartI (x : Ve) (l : List (MOp × MRp)) (i : Nat) (s : Au) (acc : List (Int × Int)) : Prop := Aok s ∧ s.ve = x ∧ checkA x l = checkLoop s i (l.drop i) acc
theorem part_start {x : Ve} {l : List (MOp × MRp)} (h : (checkA x l).2 = 0) : (newA x).2 = 0 ∧ PartI x l 0 (newA x).1 [] := by
 have h' := h
 unfold checkA at h
 split at h
 ·rename_i h1; exact absurd h h1
 rename_i h1
 split at h
 ·exact absurd h (by simp)
 rename_i h2
 have h0 : (newA x).2 = 0 := Decidable.not_not.1 h1
 refine ⟨h0, new_ok h0, ?_, by unfold checkA; rw [if_neg h1, if_neg h2]; rfl⟩
 unfold newA at h0 ⊢
 split at h0
 ·rename_i h9; exact absurd h0 h9
 ·rename_i h9; rw [if_neg h9]
end Go.Proofs.YtlckmjiioohcmaaGreatDoor

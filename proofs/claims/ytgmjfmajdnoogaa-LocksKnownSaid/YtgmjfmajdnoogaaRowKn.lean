/-
  The statement LocksKnownSaid, proved: its row over the walk of the law. Conditions: none.
-/
import Derived.Test.YtgmjfmajdnoogaaLkR
import Derived.Test.YtgmjfmajdnoogaaLawKn
namespace Go.Proofs.Ytgmjfmajdnoogaa
open Go.ChangeShapes Go.WideShapes Go.ChangeAt Go.RowKit

set_option maxRecDepth 100000 in
theorem locksKnown_lifted (os : Os) (started : os.Started) (H : Type) (enc : TypeId × Value → H) :
    ReturnsInHanded {} Try.checked os 4 .any (Rows.locksKnownSpec.pre6 enc Try.prog Try.f4 Rows.locksKnownRow.domain false) (Rows.locksKnownSpec.post enc Try.prog Try.f4 false true false false) := by
  refine returnsInHanded_of_change (C := Try.checked) Try.own started (by kernel_rfl) Try.func4
    (ChangeSpec.witness6 (enc := enc) (C := Try.checked) false ⟨#[], #[], []⟩ 8 (by kernel_rfl) (by kernel_rfl) (by kernel_rfl) (by kernel_rfl)) ?_
  intro W base args ds gs before _ hW _ _
  have hW' := hW
  obtain ⟨p, q, hA0, _, _, _, _⟩ := hW'
  have hA : DataW.TrodAll enc Try.prog W 0 (fun _ => true) true Try.f4.params.toList args.toList ds p := hA0
  rw [Try.params4] at hA
  obtain ⟨hz, rfl, _⟩ := trodAll_nil hA
  obtain rfl : args = #[] := by simpa using hz
  exact law_calls Try.laidOut (by kernel_rfl) (by kernel_rfl) Try.underlying4 rfl rfl hW (lawKnown_any W)

theorem locksKnown_holds : Rows.LocksKnownSaid :=
  OpenClaim.holds_of_wide 4 Try.f4 rfl rfl rfl rfl rfl rfl rfl ⟨rfl, rfl, rfl, rfl, rfl⟩ rfl rfl rfl rfl rfl (by kernel_rfl) Try.func4 (by kernel_rfl)
    (of_decide_eq_true (by kernel_rfl)) (by unfold Func.isWrapper; first | (rw [if_pos (by decide +kernel)]; kernel_rfl) | (rw [if_neg (by decide +kernel)]; exact ⟨rfl, rfl⟩))
    (fun os started H enc _ => locksKnown_lifted os started H enc)
end Go.Proofs.Ytgmjfmajdnoogaa

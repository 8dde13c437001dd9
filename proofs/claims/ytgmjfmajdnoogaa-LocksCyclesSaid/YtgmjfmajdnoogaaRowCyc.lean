/-
  The statement LocksCyclesSaid, proved: its row over the walk of LawCyc. Conditions: none.
-/
import Derived.Test.YtgmjfmajdnoogaaLkR
import Derived.Test.YtgmjfmajdnoogaaLawCyc
namespace Go.Proofs.Ytgmjfmajdnoogaa
open Go.ChangeShapes Go.WideShapes Go.ChangeAt Go.RowKit

set_option maxRecDepth 100000 in
theorem locksCycles_lifted (os : Os) (started : os.Started) (H : Type) (enc : TypeId × Value → H) :
    ReturnsInHanded {} Try.checked os 3 .any (Rows.locksCyclesSpec.pre6 enc Try.prog Try.f3 Rows.locksCyclesRow.domain false) (Rows.locksCyclesSpec.post enc Try.prog Try.f3 false true false false) := by
  refine returnsInHanded_of_change (C := Try.checked) Try.own started (by kernel_rfl) Try.func3
    (ChangeSpec.witness6 (enc := enc) (C := Try.checked) false ⟨#[], #[.agg #[.slice none 0 0, .slice none 0 0]], []⟩ 8 (by kernel_rfl) (by kernel_rfl) (by kernel_rfl) (by kernel_rfl)) ?_
  intro W base args ds gs before hval0 hW _ _
  have hval : ∀ (j : Nat) t v, Try.f3.params[j]? = some t → args[j]? = some v → Value.okWide Try.prog W .any base t v := hval0
  have hW' := hW
  obtain ⟨p, q, hA0, _, _, _, _⟩ := hW'
  have hA : DataW.TrodAll enc Try.prog W 0 (fun _ => true) true Try.f3.params.toList args.toList ds p := hA0
  rw [Try.params3] at hA hval
  obtain ⟨v, d, rfl, rfl, h0⟩ := trodAll_one hA
  obtain ⟨v1, v2, s, rfl, h1, h2⟩ := st_open (hval 0 _ _ rfl rfl) h0
  exact law_calls Try.laidOut (by kernel_rfl) (by kernel_rfl) Try.underlying4 rfl rfl hW (lawCycles_any v1 v2 s W h1 h2)

theorem locksCycles_holds : Rows.LocksCyclesSaid :=
  OpenClaim.holds_of_wide 3 Try.f3 rfl rfl rfl rfl rfl rfl rfl ⟨rfl, rfl, rfl, rfl, rfl⟩ rfl rfl rfl rfl rfl (by kernel_rfl) Try.func3 (by kernel_rfl)
    (of_decide_eq_true (by kernel_rfl)) (by unfold Func.isWrapper; first | (rw [if_pos (by decide +kernel)]; kernel_rfl) | (rw [if_neg (by decide +kernel)]; exact ⟨rfl, rfl⟩))
    (fun os started H enc _ => locksCycles_lifted os started H enc)
end Go.Proofs.Ytgmjfmajdnoogaa

/-
  The statement LocksStatesSaid, proved: its row over the walk of the law. Conditions: none.
-/
import Derived.Test.YtgmjfmajdnoogaaLkCl
import Derived.Test.YtgmjfmajdnoogaaLkDa
namespace Go.Proofs.Ytgmjfmajdnoogaa
open Go.ChangeShapes Go.WideShapes Go.ChangeAt Go.RowKit

set_option maxRecDepth 100000 in
theorem locksStates_lifted (os : Os) (started : os.Started) (H : Type) (enc : TypeId × Value → H) :
    ReturnsInHanded {} Try.checked os 5 .any (Rows.locksStatesSpec.pre6 enc Try.prog Try.f5 Rows.locksStatesRow.domain false) (Rows.locksStatesSpec.post enc Try.prog Try.f5 false true false false) := by
  refine returnsInHanded_of_change (C := Try.checked) Try.own started (by kernel_rfl) Try.func5
    (ChangeSpec.witness6 (enc := enc) (C := Try.checked) false ⟨#[], #[.agg #[.slice none 0 0, .slice none 0 0], .agg #[.int .u8 0, .int .i64 0, .int .i64 0]], []⟩ 8 (by kernel_rfl) (by kernel_rfl) (by kernel_rfl) (by kernel_rfl)) ?_
  intro W base args ds gs before hval0 hW _ _
  have hval : ∀ (j : Nat) t v, Try.f5.params[j]? = some t → args[j]? = some v → Value.okWide Try.prog W .any base t v := hval0
  clear hval0
  have hW' := hW
  obtain ⟨p, q, hA0, _, _, _, _⟩ := hW'
  have hA : DataW.TrodAll enc Try.prog W 0 (fun _ => true) true Try.f5.params.toList args.toList ds p := hA0
  rw [Try.params5] at hA hval
  obtain ⟨v0, v1, d0, d1, p0, p1, rfl, rfl, rfl, h0, h1⟩ := trodAll_two hA
  obtain ⟨v1, v2, s, rfl, j1, j2⟩ := st_open (hval 0 _ _ rfl rfl) h0
  obtain ⟨x, rfl, _, bt, _⟩ := cl_open (hval 1 _ _ rfl rfl) h1
  exact law_calls Try.laidOut (by kernel_rfl) (by kernel_rfl) Try.underlying4 rfl rfl hW (lawStates_any v1 v2 s x.what x.task x.lock W j1 j2 bt)

theorem locksStates_holds : Rows.LocksStatesSaid :=
  OpenClaim.holds_of_wide 5 Try.f5 rfl rfl rfl rfl rfl rfl rfl ⟨rfl, rfl, rfl, rfl, rfl⟩ rfl rfl rfl rfl rfl (by kernel_rfl) Try.func5 (by kernel_rfl)
    (of_decide_eq_true (by kernel_rfl)) (by unfold Func.isWrapper; first | (rw [if_pos (by decide +kernel)]; kernel_rfl) | (rw [if_neg (by decide +kernel)]; exact ⟨rfl, rfl⟩))
    (fun os started H enc _ => locksStates_lifted os started H enc)
end Go.Proofs.Ytgmjfmajdnoogaa

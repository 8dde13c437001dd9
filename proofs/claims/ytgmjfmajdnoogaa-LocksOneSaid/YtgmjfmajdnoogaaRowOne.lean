/-
  The statement LocksOneSaid, proved: its row over the walk of the law. Conditions: none.
-/
import Derived.Test.YtgmjfmajdnoogaaLkCl
import Derived.Test.YtgmjfmajdnoogaaLawOne
namespace Go.Proofs.Ytgmjfmajdnoogaa
open Go.ChangeShapes Go.WideShapes Go.ChangeAt Go.RowKit

set_option maxRecDepth 100000 in
theorem locksOne_lifted (os : Os) (started : os.Started) (H : Type) (enc : TypeId × Value → H) :
    ReturnsInHanded {} Try.checked os 8 .any (Rows.locksOneSpec.pre6 enc Try.prog Try.f8 Rows.locksOneRow.domain false) (Rows.locksOneSpec.post enc Try.prog Try.f8 false true false false) := by
  refine returnsInHanded_of_change (C := Try.checked) Try.own started (by kernel_rfl) Try.func8
    (ChangeSpec.witness6 (enc := enc) (C := Try.checked) false ⟨#[], #[.int .u8 0, .slice none 0 0, .agg #[.int .u8 0, .int .i64 0, .int .i64 0]], []⟩ 8 (by kernel_rfl) (by kernel_rfl) (by kernel_rfl) (by kernel_rfl)) ?_
  intro W base args ds gs before hval0 hW _ _
  have hval : ∀ (j : Nat) t v, Try.f8.params[j]? = some t → args[j]? = some v → Value.okWide Try.prog W .any base t v := hval0
  clear hval0
  have hW' := hW
  obtain ⟨p, q, hA0, _, _, _, _⟩ := hW'
  have hA : DataW.TrodAll enc Try.prog W 0 (fun _ => true) true Try.f8.params.toList args.toList ds p := hA0
  rw [Try.params8] at hA hval
  obtain ⟨v0, v1, v2, d0, d1, d2, p0, p1, p2, rfl, rfl, rfl, h0, h1, h2⟩ := trodAll_three hA
  obtain ⟨n, rfl, hn⟩ := num_open Try.underlying5 (hval 0 _ _ rfl rfl) h0
  obtain ⟨xs, hs⟩ := cls_open (hval 1 _ _ rfl rfl) h1
  obtain ⟨x, rfl, _, bt, _⟩ := cl_open (hval 2 _ _ rfl rfl) h2
  have hn := u8_of_wf hn
  exact law_calls Try.laidOut (by kernel_rfl) (by kernel_rfl) Try.underlying4 rfl rfl hW (lawOne_any n v1 xs x.what x.task x.lock W hn.1 hn.2 hs bt)

theorem locksOne_holds : Rows.LocksOneSaid :=
  OpenClaim.holds_of_wide 8 Try.f8 rfl rfl rfl rfl rfl rfl rfl ⟨rfl, rfl, rfl, rfl, rfl⟩ rfl rfl rfl rfl rfl (by kernel_rfl) Try.func8 (by kernel_rfl)
    (of_decide_eq_true (by kernel_rfl)) (by unfold Func.isWrapper; first | (rw [if_pos (by decide +kernel)]; kernel_rfl) | (rw [if_neg (by decide +kernel)]; exact ⟨rfl, rfl⟩))
    (fun os started H enc _ => locksOne_lifted os started H enc)
end Go.Proofs.Ytgmjfmajdnoogaa

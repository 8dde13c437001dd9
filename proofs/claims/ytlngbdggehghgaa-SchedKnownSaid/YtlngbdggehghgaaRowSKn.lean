/-
  The statement SchedKnownSaid, proved: its row over the walk of the law in company. Conditions: none.
-/
import Derived.Test.YtlngbdggehghgaaCyB
import Derived.Test.YtlngbdggehghgaaRows
import Derived.Conc.Holds
namespace Go.Proofs.Ytlngbdggehghgaa
set_option linter.unusedSimpArgs false
set_option linter.unusedVariables false
open Go.ChangeShapes Go.WideShapes Go.ChangeAt Go.RowKit Go.Conc
set_option maxRecDepth 100000 in
theorem schedKnown_lifted (os : Os) (started : os.Started) (H : Type) (enc : TypeId × Value → H) :
    ReturnsInLeavingWide {} Try.checked os 9 .any (Rows.schedKnownSpec.pre6 enc Try.prog Try.f9 Rows.schedKnownRow.domain false) (Rows.schedKnownSpec.post enc Try.prog Try.f9 false true false false) := by
  refine Co.law_leaving (tb := 4) started Try.func9
    (ChangeSpec.witness6 (enc := enc) (C := Try.checked) false ⟨#[], #[], []⟩ 8 (by kernel_rfl) (by kernel_rfl) (by kernel_rfl) (by kernel_rfl)) (by kernel_rfl) rfl Try.underlying4 rfl (fun ds hd => by
      obtain rfl : ds = [] := List.eq_nil_of_length_eq_zero hd
      rfl) ?_
  intro W base args ds gs before _ hW
  have hW' := hW
  obtain ⟨p, q, hA0, _, _, _, _⟩ := hW'
  have hA : DataW.TrodAll enc Try.prog W 0 (fun _ => true) true Try.f9.params.toList args.toList ds p := hA0
  rw [Try.params9] at hA
  obtain ⟨hz, rfl, _⟩ := trodAll_nil hA
  obtain rfl : args = #[] := by simpa using hz
  exact ⟨rfl, Co.known_co _⟩
theorem schedKnown_holds : Rows.SchedKnownSaid :=
  OpenClaim.holds_of_wide_leaving 9 Try.f9 rfl rfl rfl rfl rfl rfl rfl ⟨rfl, rfl, rfl, rfl, rfl⟩ rfl rfl rfl rfl rfl (by kernel_rfl) Try.func9 (by kernel_rfl)
    (of_decide_eq_true (by kernel_rfl)) (by unfold Func.isWrapper; first | (rw [if_pos (by decide +kernel)]; kernel_rfl) | (rw [if_neg (by decide +kernel)]; exact ⟨rfl, rfl⟩))
    (fun os started H enc _ => schedKnown_lifted os started H enc)
end Go.Proofs.Ytlngbdggehghgaa

/-
  The statement SchedStepsSaid, proved: its row over the walk of the law in company. Conditions: none.
-/
import Derived.Test.YtlngbdggehghgaaCzC
import Derived.Test.YtlngbdggehghgaaCyM
import Derived.Test.YtlngbdggehghgaaRows
import Derived.Conc.Holds
namespace Go.Proofs.Ytlngbdggehghgaa
set_option linter.unusedSimpArgs false
set_option linter.unusedVariables false
open Go.ChangeShapes Go.WideShapes Go.ChangeAt Go.RowKit Go.Conc
set_option maxRecDepth 100000 in
theorem schedSteps_lifted (os:Os) (started:os.Started) (H:Type) (enc:TypeId×Value→H):
 ReturnsInLeavingWide {} Try.checked os 6 .any (Rows.schedStepsSpec.pre6 enc Try.prog Try.f6 Rows.schedStepsRow.domain false) (Rows.schedStepsSpec.post enc Try.prog Try.f6 false true false false):=by
 refine Co.law_leaving (tb:=4) started Try.func6
  (ChangeSpec.witness6 (enc:=enc) (C:=Try.checked) false ⟨#[],#[.agg #[.slice none 0 0,.slice none 0 0,.int .i64 0],.slice none 0 0],[]⟩ 8 (by kernel_rfl) (by kernel_rfl) (by kernel_rfl) (by kernel_rfl)) (by kernel_rfl) rfl Try.underlying4 rfl (fun ds hd=>by
   have hd:ds.length=2:=hd.trans (by kernel_rfl)
   match ds,hd with
   |[d0,d1],_=>rfl) ?_
 intro W base args ds gs before hval0 hW
 have hval:∀(j:Nat) t v,Try.f6.params[j]?=some t→args[j]?=some v→Value.okWide Try.prog W .any base t v:=hval0
 clear hval0
 have hW':=hW
 obtain⟨p,q,hA0,_,_,_,_⟩:=hW'
 have hA:DataW.TrodAll enc Try.prog W 0 (fun _=>true) true Try.f6.params.toList args.toList ds p:=hA0
 rw[Try.params6] at hA hval
 obtain⟨v0,v1,d0,d1,p0,p1,rfl,rfl,rfl,h0,h1⟩:=trodAll_two hA
 obtain⟨pn,kv,fv,rfl,hp⟩:=plan_open (hval 0 _ _ rfl rfl) h0
 obtain⟨pk,hs,hb⟩:=ints_open (hval 1 _ _ rfl rfl) h1
 exact⟨rfl,Co.steps_co (Co.lawP_of hp hs hb)⟩
theorem schedSteps_holds:Rows.SchedStepsSaid:=
 OpenClaim.holds_of_wide_leaving 6 Try.f6 rfl rfl rfl rfl rfl rfl rfl ⟨rfl,rfl,rfl,rfl,rfl⟩ rfl rfl rfl rfl rfl (by kernel_rfl) Try.func6 (by kernel_rfl)
  (of_decide_eq_true (by kernel_rfl)) (by unfold Func.isWrapper;first|(rw[if_pos (by decide+kernel)];kernel_rfl)|(rw[if_neg (by decide+kernel)];exact⟨rfl,rfl⟩))
  (fun os started H enc _=>schedSteps_lifted os started H enc)
end Go.Proofs.Ytlngbdggehghgaa

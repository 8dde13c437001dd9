/-
  Numbers among the arguments, opened. Conditions: none.
-/
import Derived.Test.YtlngbdggehghgaaCyM
namespace Go.Proofs.Ytlngbdggehghgaa
set_option linter.unusedSimpArgs false
set_option linter.unusedVariables false
open Go.RowKit Go.ChangeShapes Go.WideShapes Go.ChangeAt Go.Joins
section
variable {H:Type} {enc:TypeId×Value→H}
set_option maxRecDepth 20000 in
theorem num_open {k:IntKind} {t:TypeId} (ht:Try.prog.underlying t=some (.int k)) {W:World} {b0:Nat} {v:Value} {d:DataW H} {p:List MemPlace} (hok:Value.okWide Try.prog W .any b0 t v) (h:DataW.Trod enc Try.prog W 0 (fun _=>true) true t v d p):
 ∃x:Int,v=.int k x∧(Lit.int k x).wf=true:=by
 obtain⟨x,rfl⟩:=okWide_int ht hok
 obtain⟨fuel,h⟩:=h
 obtain⟨x',e,_,w⟩:=DataW.trod_int ht h
 simp[Value.cells] at e
 subst e
 exact⟨_,rfl,w⟩
set_option maxRecDepth 20000 in
theorem byte_open {W:World} {b0:Nat} {v:Value} {d:DataW H} {p:List MemPlace} (hok:Value.okWide Try.prog W .any b0 5 v) (h:DataW.Trod enc Try.prog W 0 (fun _=>true) true 5 v d p):∃x:Int,v=.int .u8 x∧0≤x∧x<256:=by
 obtain⟨x,rfl,w⟩:=num_open Try.underlying5 hok h
 exact⟨x,rfl,u8_of_wf w⟩
end
end Go.Proofs.Ytlngbdggehghgaa

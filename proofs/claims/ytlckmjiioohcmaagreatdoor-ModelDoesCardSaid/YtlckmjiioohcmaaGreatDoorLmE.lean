/-
  What the laws of groundlinglaw23 share: New's state is one; the state behind so many operations. Conditions: none.
-/
import Derived.Test.YtlckmjiioohcmaaGreatDoorPlMw
import Derived.Deep.MidRow
namespace Go.Proofs.YtlckmjiioohcmaaGreatDoor
open Go.RowKit
section
variable {P:Program} {ops:Array Oper} {rest:List Oper} {op:Oper} {a:Act} {w:World} {Q:Exit→Act→World→Prop}
theorem wpList_wanted (hw:Region.wanted op (yielded ops a.tmps)=true) (h:∀K:Act→World→Prop,(∀a w,wpList P ops Q rest a w→K a w)→op.wp P a w K Q):wpList P ops Q (op::rest) a w:=
 wpList_step fun K hK=>by simp only[hw,if_true];exact h K hK
theorem wpList_load_midg (hw:Region.wanted op (yielded ops a.tmps)=true) (ty:TypeId) (x:Operand) (ho:op.op=.load ty x) (b o:Nat) (hx:a.eval x=.pointer (some ⟨b,o,none⟩)) (cs:List Value) (d:TypeDesc) (hc:w.rangeAt b o cs)
 (hu:P.underlying ty=some d) (hd:d.isRow=true) (hi:(P.info? ty).map (·.size)=some cs.length) (h:wpList P ops Q rest (a.put op.dst (.agg cs.toArray)) w):wpList P ops Q (op::rest) a w:=
 wpList_wanted hw fun _ hK=>wp_load_mid ty x ho b o hx cs d hc hu hd hi (hK _ _ h)
end
end Go.Proofs.YtlckmjiioohcmaaGreatDoor

/-
  What the laws of groundlinglaw23 share: New's state is one; the state behind so many operations. Conditions: none.
-/
import Derived.Test.YtlckmjiioohcmaaGreatDoorPlMw
import Derived.Deep.MidRow
namespace Go.Proofs.YtlckmjiioohcmaaGreatDoor
open Go.RowKit
theorem newM_ok {x:Ve} (h:(newM x).2=0):MdOk (newM x).1:=by
 unfold newM at h⊢
 by_cases h1:(seatsV x).2≠0
 ·rw[if_pos h1] at h;exact absurd h h1
 rw[if_neg h1]
 have hv:=seatsV_zero.1 (Decidable.not_not.1 h1)
 have hs:=seatsV_sum hv
 rw[hs]
 have hn:0≤sum (allRows x):=sum_nonneg fun m hm=>by
  unfold allRows at hm
  obtain⟨sc,hx,hm⟩:=List.mem_flatMap.1 hm
  obtain⟨j,hj,rfl⟩:=List.getElem_of_mem hx
  have:=(secE_ok ((checkV_ok hv).1.2 j hj)).2.1 m hm
  omega
 refine⟨hv,Int.le_refl _, ?_,by simp,fun y hy=> ?_,fun k l hk=> ?_⟩
 ·show((List.replicate (sum (allRows x)).toNat zeroSx).length:Int)=sum (allRows x)
  rw[List.length_replicate]
  omega
 ·obtain⟨_,rfl⟩:=List.mem_replicate.1 hy
  rfl
 ·have:=List.mem_of_getElem? hk
  obtain⟨_,rfl⟩:=List.mem_replicate.1 this
  exact⟨(lim_bd hv k).1,List.nodup_nil⟩
theorem mdoM_ok {s:Md} (h:MdOk s) (op:MOp):mdoM s op=doM s op:=by
 unfold mdoM
 rw[checkM_ok.2 h]
 rfl
theorem md_small {s:Md} (h:MdOk s):s.qs.length≤1000∧∀l,l∈s.qs→l.length≤1000:=⟨by have:=h.nqs;omega,fun l hl=>by have:=h.qlen l hl;omega⟩
theorem range_later {W X:World} {b off:Nat} {cs:List Value} (hb:Below W.heap.size W X) (h:W.rangeAt b off cs):X.rangeAt b off cs:=fun j u hu=>cell_later hb (h j u hu)
section
variable {P:Program} {ops:Array Oper} {rest:List Oper} {op:Oper} {a:Act} {w:World} {Q:Exit→Act→World→Prop}
end
end Go.Proofs.YtlckmjiioohcmaaGreatDoor

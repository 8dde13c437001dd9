/-
  Regions that draw, in company, whose calls change the company: an invariant. Conditions: as each theorem says.
-/
import Derived.Test.YtlngbdggehghgaaCyC
import Derived.Test.YtlngbdggehghgaaScP
namespace Go.Proofs.Ytlngbdggehghgaa.Co
set_option linter.unusedSimpArgs false
set_option linter.unusedVariables false
open Go.Conc Go.RowKit
theorem cnt_set {l:Array Bool} {i:Nat} (h:l.getD i true=false):(l.setIfInBounds i true).toList.count false+1=l.toList.count false:=by
 have hi:i<l.size:=by
  rcases Nat.lt_or_ge i l.size with h1|h1
  ·exact h1
  ·rw[Array.getD_eq_getD_getElem?,Array.getElem?_eq_none h1] at h;cases h
 have hv:l.toList[i]'(by simpa using hi)=false:=by
  rw[Array.getD_eq_getD_getElem?,Array.getElem?_eq_getElem hi] at h
  simpa using h
 rw[Array.toList_setIfInBounds,List.count_set (by simpa using hi),hv]
 have h3:0<l.toList.count false:=List.count_pos_iff.2 (hv▸List.getElem_mem _)
 rw[if_pos (by rfl),if_neg (by decide)]
 omega
section
variable {P:Program} {Z:Goal} {h:Nat} {b:Frame} {k:List Item} {cs:List Frame}
def OpX (P:Program) (Z:Goal) (h:Nat) (b:Frame) (k:List Item) (cs:List Frame) (ops:Array Oper) (i:Nat) (K:Fx→Act→World→Prop) (X:Fx) (a:Act) (v:World):Prop:=
 ∀rest,(∀X' a' v',K X' a' v'→Co P Z h X' (G (b.at a' (.inRegion ops rest::k)) cs) v')→Co P Z h X (G (b.at a (.inRegion ops (i::rest)::k)) cs) v
theorem inv_sound {ops:Array Oper} (Inv:Array Bool→Fx→Act→World→Prop)
 (hstep:∀listed X a v i,listed.size=ops.size→Inv listed X a v→i∈Region.ready .any ops listed→OpX P Z h b k cs ops i (Inv (listed.setIfInBounds i true)) X a v)
 (hend:∀listed X a v,listed.size=ops.size→Inv listed X a v→Region.ready .any ops listed=[]→Co P Z h X (G (b.at a (.inRegion ops []::k)) cs) v):
 ∀(fuel t:Nat) (listed:Array Bool) (X:Fx) (a:Act) (v:World),listed.size=ops.size→listed.toList.count false≤fuel→Inv listed X a v→Co P Z h X (G (b.at a (.inRegion ops (Region.linearise.go .any ops fuel t listed [])::k)) cs) v:=by
 intro fuel
 induction fuel with
 |zero=>
  intro t listed X a v hs hc hh
  simp only[Region.linearise.go]
  refine hend listed X a v hs hh ?_
  cases hr:Region.ready .any ops listed with
  |nil=>rfl
  |cons i is=>
   have hm:i∈Region.ready .any ops listed:=by rw[hr];exact List.mem_cons_self
   have h1:=cnt_set (mem_ready.1 hm).1
   omega
 |succ fuel ih=>
  intro t listed X a v hs hc hh
  simp only[Region.linearise.go]
  change Co P Z h X (G (b.at a (.inRegion ops (match(Region.ready .any ops listed)[t%(Region.ready .any ops listed).length]? with
   |some i=>Region.linearise.go .any ops fuel (t/(Region.ready .any ops listed).length) (listed.setIfInBounds i true) [i]
   |none=>[].reverse)::k)) cs) v
  cases hi:(Region.ready .any ops listed)[t%(Region.ready .any ops listed).length]? with
  |none=>
   have hnil:Region.ready .any ops listed=[]:=by
    cases hr:Region.ready .any ops listed with
    |nil=>rfl
    |cons x xs=>
     rw[hr] at hi
     have hlt:t%(x::xs).length<(x::xs).length:=Nat.mod_lt _ (by simp)
     simp at hi
     simp at hlt
     omega
   exact hend listed X a v hs hh hnil
  |some i=>
   simp only[]
   rw[linearise_go_acc,List.reverse_singleton,List.singleton_append]
   have hm:=List.mem_of_getElem? hi
   exact hstep listed X a v i hs hh hm _ fun X' a' v' hK=>ih _ _ X' a' v' (by simpa using hs) (by have:=cnt_set (mem_ready.1 hm).1;omega) hK
theorem co_inv {X:Fx} {a:Act} {v:World} (hZ:Z.Ok P) (hX:X.Ok P h) (hm:P.follows .mixedOrders=true) {ops:Array Oper} {id:Nat} (Inv:Array Bool→Fx→Act→World→Prop)
 (hstep:∀listed X a v i,listed.size=ops.size→Inv listed X a v→i∈Region.ready .any ops listed→OpX P Z h b k cs ops i (Inv (listed.setIfInBounds i true)) X a v)
 (hend:∀listed X a v,listed.size=ops.size→Inv listed X a v→Region.ready .any ops listed=[]→Co P Z h X (G (b.at a (.inRegion ops []::k)) cs) v)
 (hh:Inv (Array.replicate ops.size false) X a v):Co P Z h X (G (b.at a (.code (.region id ops true)::k)) cs) v:=
 co_region_draw hZ hX fun t=>by
  simp only[Region.schedule,hm,Bool.true_or,if_true]
  exact inv_sound Inv hstep hend ops.size t _ X a v (by simp) (by simp) hh
end
end Go.Proofs.Ytlngbdggehghgaa.Co

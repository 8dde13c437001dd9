/-
  Regions that draw: what has come up has its value in its slot. Conditions: as each theorem says.
-/
import Derived.Test.YtlngbdggehghgaaCyD
namespace Go.Proofs.Ytlngbdggehghgaa.Co
set_option linter.unusedSimpArgs false
set_option linter.unusedVariables false
open Go.Conc Go.RowKit
structure Slots (n:Nat) (base:List (Nat×Value)) (sl:List Nat) (V:Nat→Value) (listed:Array Bool) (a:Act):Prop where
 size:a.tmps.size=n
 df:a.defers=[]
 old:∀i v,(i,v)∈base→a.eval (.tmp i)=v
 got:∀(i s:Nat),sl[i]?=some s→listed.getD i false=true→a.eval (.tmp s)=V i
theorem eval_put {a:Act} {s t:Nat} {v:Value} (hs:s<a.tmps.size):(a.put (some s) v).eval (.tmp t)=if t=s then v else a.eval (.tmp t):=by
 by_cases e:t=s
 ·subst e
  simp[Act.eval,Act.put,hs]
 ·rw[if_neg e]
  simp[Act.eval,Act.put,Array.getElem?_setIfInBounds,Ne.symm e]
theorem Slots.put {n:Nat} {base:List (Nat×Value)} {sl:List Nat} {V V':Nat→Value} {listed:Array Bool} {a:Act} (h:Slots n base sl V listed a) {i s:Nat} (hs:sl[i]?=some s) (hn:sl.Nodup) (hb:∀p∈base,p.1∉sl) (hlt:s<n)
 (hV:∀j,j≠i→listed.getD j false=true→V' j=V j):Slots n base sl V' (listed.setIfInBounds i true) (a.put (some s) (V' i)):=by
 have hs':s<a.tmps.size:=by rw[h.size];exact hlt
 refine⟨by simp[Act.put,h.size],by simp[Act.put,h.df],fun j v hj=> ?_,fun j t hj hl=> ?_⟩
 ·rw[eval_put hs',if_neg (fun e=>hb _ hj (by show j∈sl;rw[e];exact List.mem_of_getElem? hs))]
  exact h.old j v hj
 ·rw[eval_put hs']
  by_cases e:j=i
  ·subst e
   rw[hs] at hj
   rw[if_pos (Option.some.inj hj).symm]
  ·have hne:t≠s:=fun e'=>by
    subst e'
    obtain⟨h1,e1⟩:=List.getElem?_eq_some_iff.1 hj
    obtain⟨h2,e2⟩:=List.getElem?_eq_some_iff.1 hs
    exact e ((List.getElem_inj hn).1 (e1.trans e2.symm))
   rw[if_neg hne]
   have hl2:listed.getD j false=true:=by
    rw[Array.getD_eq_getD_getElem?,Array.getElem?_setIfInBounds_ne (Ne.symm e)] at hl
    rw[Array.getD_eq_getD_getElem?];exact hl
   rw[hV j e hl2]
   exact h.got j t hj hl2
end Go.Proofs.Ytlngbdggehghgaa.Co

/-
  Regions that draw their order and store at the end: what is loaded ahead of the stores may be taken first. Conditions: as each theorem says.
-/
import Derived.Test.YtlngbdggehghgaaScH
import Derived.OrdersHeld
namespace Go.Proofs.Ytlngbdggehghgaa
set_option linter.unusedSimpArgs false
set_option linter.unusedVariables false
open Go.RowKit
section
variable {P:Program} {ops:Array Oper} {Q:Exit→Act→World→Prop} {md:Region.Mode} {late:Nat→Bool} {S S1:World→Prop}
def NoLate (late:Nat→Bool) (listed:Array Bool):Prop:=∀j,late j=true→listed.getD j false=false
def wpAnyT (P:Program) (md:Region.Mode) (ops:Array Oper) (Q:Exit→Act→World→Prop) (late:Nat→Bool) (S S1:World→Prop):Nat→Array Bool→Act→World→Prop
 |0,listed,a,w=>Region.ready md ops listed=[]∧Q .normal a w
 |fuel+1,listed,a,w=>
  (Region.ready md ops listed=[]→Q .normal a w)∧
  ∀i∈Region.ready md ops listed,wpOp P ops Q i (fun a' w'=>S w'∧(NoLate late (listed.setIfInBounds i true)→S1 w')∧wpAnyT P md ops Q late S S1 fuel (listed.setIfInBounds i true) a' w') a w
theorem wpAny_of_T:∀(fuel:Nat) (listed:Array Bool) (a:Act) (w:World),wpAnyT P md ops Q late S S1 fuel listed a w→wpAny P md ops Q fuel listed a w
 |0,_,_,_,h=>h
 |fuel+1,_,_,_,h=>⟨h.1,fun i hi=>wpOp_mono (fun a' w' h'=>wpAny_of_T fuel _ a' w' h'.2.2) (h.2 i hi)⟩
theorem NoLate.less {listed:Array Bool} {i:Nat} (h:NoLate late (listed.setIfInBounds i true)):NoLate late listed:=by
 intro j hj
 have:=h j hj
 by_cases e:i=j
 ·subst e
  rcases Nat.lt_or_ge i listed.size with hl|hl
  ·rw[Array.getD_eq_getD_getElem?,Array.getElem?_setIfInBounds_self_of_lt hl] at this
   cases this
  ·rw[Array.getD_eq_getD_getElem?,Array.getElem?_eq_none hl];rfl
 ·rw[Array.getD_eq_getD_getElem?,Array.getElem?_setIfInBounds_ne e] at this
  rw[Array.getD_eq_getD_getElem?];exact this
theorem NoLate.more {listed:Array Bool} {i:Nat} (h:NoLate late listed) (hi:late i=false):NoLate late (listed.setIfInBounds i true):=by
 intro j hj
 have e:i≠j:=fun e=>by rw[e,hj] at hi;cases hi
 rw[Array.getD_eq_getD_getElem?,Array.getElem?_setIfInBounds_ne e,←Array.getD_eq_getD_getElem?]
 exact h j hj
theorem wpAnyT_first {i:Nat} {oi:Oper} {v:Value} (hi:ops[i]?=some oi) (hsel:∀(j:Nat) (o:Oper) cs b,ops[j]?=some o→o.op≠.select cs b) (hli:late i=false) (S2:World→Prop)
 (hQ:∀c a w,Q (.panic c) (a.put oi.dst v) w→Q (.panic c) a w) (hL:(∀j oj,ops[j]?=some oj→late j=true→∃e∈oj.after,Region.binds md e=true∧e.on=i)∧S2=(fun w=>S w∧S1 w)∨S2=S):
 ∀(fuel:Nat) (listed:Array Bool) (a:Act) (w:World),
  (∀j oj,ops[j]?=some oj→j≠i→listed.getD j true=false→(∀e∈oj.after,Region.binds md e=true→e.on≠i)→oi.apart ops oj=true)→
  i∈Region.ready md ops listed→YieldsIf P ops S2 oi v a→S w→(NoLate late listed→S1 w)→(S2=S∨NoLate late listed)→
  wpAnyT P md ops Q late S S1 fuel (listed.setIfInBounds i true) (a.put oi.dst v) w→wpAnyT P md ops Q late S S1 (fuel+1) listed a w:=by
 intro fuel
 induction fuel with
 |zero=>
  intro listed a w _ hr hy hS hS1 hN H
  have h2:S2 w:=by
   rcases hL with⟨_,e⟩|e
   ·rw[e]
    rcases hN with hN|hN
    ·have:S2 w:=by rw[hN];exact hS
     rw[e] at this;exact this
    ·exact⟨hS,hS1 hN⟩
   ·rw[e];exact hS
  refine⟨fun h=>(by rw[h] at hr;cases hr),fun j hj=> ?_⟩
  by_cases hji:j=i
  ·subst hji;exact hy.wpOp hi h2 ⟨hS,fun n=>hS1 n.less,H⟩
  ·have:=ready_mono hj hji
   rw[H.1] at this
   cases this
 |succ fuel ih=>
  intro listed a w hfree hr hy hS hS1 hN H
  have h2:S2 w:=by
   rcases hL with⟨_,e⟩|e
   ·rw[e]
    rcases hN with hN|hN
    ·have:S2 w:=by rw[hN];exact hS
     rw[e] at this;exact this
    ·exact⟨hS,hS1 hN⟩
   ·rw[e];exact hS
  refine⟨fun h=>(by rw[h] at hr;cases hr),fun j hj=> ?_⟩
  by_cases hji:j=i
  ·subst hji;exact hy.wpOp hi h2 ⟨hS,fun n=>hS1 n.less,H⟩
  ·have h1:=H.2 j (ready_mono hj hji)
   obtain⟨hjun,oj,hoj,hall⟩:=mem_ready.1 hj
   have hnot:∀e∈oj.after,Region.binds md e=true→e.on≠i:=fun e he hb heq=>by
    have h1:=hall e he hb
    have h0:=(mem_ready.1 hr).1
    rw[heq] at h1
    rcases Nat.lt_or_ge i listed.size with h'|h'
    ·simp[h'] at h0 h1;rw[h0] at h1;cases h1
    ·simp[Array.getElem?_eq_none h'] at h1
   have h3:=wpOp_putIf hoj (hfree j oj hoj hji hjun hnot) (fun cs b=>hsel i oi cs b hi) (fun cs b=>hsel j oj cs b hoj) hQ hy h1
   have hfree':∀k ok,ops[k]?=some ok→k≠i→(listed.setIfInBounds j true).getD k true=false→
    (∀e∈ok.after,Region.binds md e=true→e.on≠i)→oi.apart ops ok=true:=fun k ok hk hki hun hno=>by
    refine hfree k ok hk hki ?_ hno
    by_cases hjk:j=k
    ·subst hjk;exact hjun
    ·rw[getD_set_ne true hjk] at hun;exact hun
   have hN':S2=S∨NoLate late (listed.setIfInBounds j true):=by
    rcases hN with hN|hN
    ·exact .inl hN
    ·rcases hL with⟨hL,_⟩|e
     ·refine .inr (hN.more ?_)
      cases hlj:late j with
      |false=>rfl
      |true=>
       obtain⟨e,he,hb,heq⟩:=hL j oj hoj hlj
       exact absurd heq (hnot e he hb)
     ·exact .inl e
   refine wpOp_mono (fun a' w' h4=> ?_) h3
   have hS1':NoLate late (listed.setIfInBounds j true)→S1 w':=fun n=>h4.2.2.1 (by rw[Array.setIfInBounds_comm _ _ (Ne.symm hji)];exact n.more hli)
   refine⟨h4.2.1,hS1',ih (listed.setIfInBounds j true) a' w' hfree' (ready_mono hr (Ne.symm hji)) h4.1 h4.2.1 hS1' hN' ?_⟩
   rw[Array.setIfInBounds_comm _ _ hji]
   exact h4.2.2.2
def late1B (md:Region.Mode) (ops:Array Oper) (late:Nat→Bool) (i:Nat):Bool:=(List.range ops.size).all fun j=> !late j||match ops[j]? with|some o=>o.after.any fun e=>Region.binds md e&&e.on==i|none=>true
theorem late1_spec {i:Nat} (h:late1B md ops late i=true):∀j oj,ops[j]?=some oj→late j=true→∃e∈oj.after,Region.binds md e=true∧e.on=i:=by
 intro j oj hj hl
 unfold late1B at h
 rw[List.all_eq_true] at h
 have:=h j (by simpa using(Array.getElem?_eq_some_iff.1 hj).1)
 rw[hl,hj] at this
 simp only[Bool.not_true,Bool.false_or] at this
 obtain⟨k,hk,he⟩:=Array.any_eq_true.1 this
 simp only[Bool.and_eq_true,beq_iff_eq] at he
 exact⟨oj.after[k],Array.getElem_mem hk,he⟩
theorem wpAnyT_take {i:Nat} {oi:Oper} {v:Value} {fuel:Nat} {listed:Array Bool} {a:Act} {w:World} (hi:ops[i]?=some oi)
 (hs:Region.noSelect ops=true) (hf:Region.free md ops listed i=true) (hr:(Region.ready md ops listed).contains i=true) (hL:late i=false)
 (hQ:∀c a w,Q (.panic c) (a.put oi.dst v) w→Q (.panic c) a w) (hy:YieldsIf P ops S oi v a) (hS:S w) (hS1:NoLate late listed→S1 w)
 (h:wpAnyT P md ops Q late S S1 fuel (listed.setIfInBounds i true) (a.put oi.dst v) w):wpAnyT P md ops Q late S S1 (fuel+1) listed a w:=
 wpAnyT_first hi (Region.noSelect_spec hs) hL S hQ (.inr rfl) fuel listed a w (Region.free_spec hi hf) (by simpa using hr) hy hS hS1 (.inl rfl) h
theorem wpAnyT_load {i:Nat} {oi:Oper} {v:Value} {fuel:Nat} {listed:Array Bool} {a:Act} {w:World} (hi:ops[i]?=some oi)
 (hs:Region.noSelect ops=true) (hf:Region.free md ops listed i=true) (hr:(Region.ready md ops listed).contains i=true) (hL:late i=false) (hL1:late1B md ops late i=true) (hn:(List.range ops.size).all (fun j=> !late j|| !listed.getD j false)=true) (hsz:listed.size=ops.size)
 (hQ:∀c a w,Q (.panic c) (a.put oi.dst v) w→Q (.panic c) a w) (hy:YieldsIf P ops (fun w=>S w∧S1 w) oi v a) (hS:S w) (hS1:S1 w)
 (h:wpAnyT P md ops Q late S S1 fuel (listed.setIfInBounds i true) (a.put oi.dst v) w):wpAnyT P md ops Q late S S1 (fuel+1) listed a w:=
 wpAnyT_first hi (Region.noSelect_spec hs) hL _ hQ (.inl ⟨late1_spec hL1,rfl⟩) fuel listed a w (Region.free_spec hi hf) (by simpa using hr) hy hS (fun _=>hS1) (.inr fun j hj=>by
  rcases Nat.lt_or_ge j ops.size with hlt|hge
  ·rw[List.all_eq_true] at hn
   have:=hn j (by simpa using hlt)
   rw[hj] at this
   simpa using this
  ·rw[Array.getD_eq_getD_getElem?,Array.getElem?_eq_none (by omega)];rfl) h
theorem wpAnyT_all {rs:List Nat} {fuel:Nat} {listed:Array Bool} {a:Act} {w:World} (hr:Region.ready md ops listed=rs) (hne:rs≠[])
 (h:∀i∈rs,wpOp P ops Q i (fun a' w'=>S w'∧(NoLate late (listed.setIfInBounds i true)→S1 w')∧wpAnyT P md ops Q late S S1 fuel (listed.setIfInBounds i true) a' w') a w):wpAnyT P md ops Q late S S1 (fuel+1) listed a w:=
 ⟨fun h0=>absurd (hr▸h0) hne,hr▸h⟩
theorem wpAnyT_done {listed:Array Bool} {a:Act} {w:World} (hr:Region.ready md ops listed=[]) (h:Q .normal a w):
 ∀fuel,wpAnyT P md ops Q late S S1 fuel listed a w
 |0=>⟨hr,h⟩
 |_+1=>⟨fun _=>h,by rw[hr];simp⟩
theorem wp_region_T {id:Nat} {a:Act} {w:World} (late:Nat→Bool) (S S1:World→Prop) (hm:P.follows .mixedOrders=true)
 (h:wpAnyT P .any ops Q late S S1 ops.size (Array.replicate ops.size false) a {w with drawn:=w.drawn+1}):(Code.region id ops true).wp P Q a w:=
 wp_region_any hm (wpAny_of_T _ _ _ _ h)
end
theorem heldOpT {P:Program} {l:List Oper} {Q:Exit→Act→World→Prop} {i:Nat} {o:Oper} {K':Act→World→Prop} {a:Act} {w:World} (hi:l[i]?=some o) (h:∀K:Exit→Act→World→Prop,Hid (∀a w,K' a w→K .normal a w)→wpList P l.toArray K [o] a w):wpOp P l.toArray Q i K' a w:=by
 have h1:=h (midQ Q K') (Lib.hid fun _ _ h=>h)
 have hw:wpOp P l.toArray (midQ Q K') i (wpList P l.toArray (midQ Q K') []) a w:=by
  unfold wpOp
  simp only[List.getElem?_toArray,hi]
  exact h1
 exact wpOp_mid hw
end Go.Proofs.Ytlngbdggehghgaa

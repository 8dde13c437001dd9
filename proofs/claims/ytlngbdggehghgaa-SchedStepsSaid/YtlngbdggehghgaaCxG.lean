/-
  A region that draws its order: operations that only yield values, in whatever order, beside a chain of operations that change the world. Conditions: as each theorem says.
  A turn is given, in company: the turn is written down. Conditions: as each theorem says.
  A turn is given, in company: the task is sent, the worker's turn, what its step has returned is received. Conditions: as each theorem says.
-/
import Derived.Test.YtlngbdggehghgaaCxD
namespace Go.Proofs.Ytlngbdggehghgaa
set_option linter.unusedSimpArgs false
set_option linter.unusedVariables false
namespace Co
open Go.Conc
def dstL (ops:Array Oper) (i:Nat) (x:Value):List (Nat×Value):=match(ops[i]?).bind (·.dst) with
 |some d=>[(d,x)]
 |none=>[]
structure Hold (L:List (Nat×Value)) (T:Array Value) (ds:List Deferred) (S:List Nat) (a:Act):Prop where
 defers:a.defers=ds
 size:a.tmps.size=T.size
 got:∀p∈L,a.tmps[p.1]?=some p.2
 rest:∀s,s∉S→a.tmps[s]?=T[s]?
theorem hold_eq {L:List (Nat×Value)} {T:Array Value} {ds:List Deferred} {S:List Nat} {a:Act} (h:Hold L T ds S a) (hn:(L.map (·.1)).Nodup) (hS:∀s∈S,s∈L.map (·.1)) (hlt:∀p∈L,p.1<T.size):a=⟨fin L T,ds⟩:=by
 obtain⟨tm,d⟩:=a
 obtain⟨h1,h2,h3,h4⟩:=h
 simp only at h1 h2 h3 h4
 subst h1
 have:tm=fin L T:=by
  apply Array.ext_getElem?
  intro s
  by_cases hx:∃p∈L,p.1=s
  ·obtain⟨p,hp,rfl⟩:=hx
   rw[fin_at L T p hp hn (hlt p hp)]
   exact h3 p hp
  ·rw[fin_other L T s fun p hp e=>hx ⟨p,hp,e⟩]
   refine h4 s fun hs=> ?_
   obtain⟨p,hp,e⟩:=List.mem_map.1 (hS s hs)
   exact hx ⟨p,hp,e⟩
 rw[this]
section
variable {P:Program} {Z:Goal} {h:Nat} {X:Fx} {b:Frame} {ds:List Deferred} {k:List Item} {cs:List Frame} {v:World}
theorem Hold.put {L:List (Nat×Value)} {T:Array Value} {S:List Nat} {a:Act} (H:Hold L T ds S a) {d:Nat} {x:Value} (hd:∀p∈L,p.1≠d) (hS:d∈S) (hlt:d<T.size):Hold (L++[(d,x)]) T ds S (a.put (some d) x):=by
 refine⟨H.defers,by simp[Act.put,H.size],fun p hp=> ?_,fun s hs=> ?_⟩
 ·show(a.tmps.setIfInBounds d x)[p.1]?=some p.2
  rcases List.mem_append.1 hp with hp|hp
  ·rw[Array.getElem?_setIfInBounds_ne (Ne.symm (hd p hp))]
   exact H.got p hp
  ·obtain rfl:=List.mem_singleton.1 hp
   exact Array.getElem?_setIfInBounds_self_of_lt (by rw[H.size];exact hlt)
 ·show(a.tmps.setIfInBounds d x)[s]?=T[s]?
  rw[Array.getElem?_setIfInBounds_ne (fun e=>hs (by rw[←e];exact hS))]
  exact H.rest s hs
structure Stand (ops:Array Oper) (l:List (Option Value)) (spl:List Nat) (S:List Nat) (T:Array Value) (ds:List Deferred) (listed:Array Bool) (m:Nat) (sv:List (Nat×Value)) (a:Act):Prop where
 size:listed.size=ops.size
 low:m≤spl.length
 spe:∀j i,spl[j]?=some i→(listed.getD i true=true↔j<m)
 defers:a.defers=ds
 tsz:a.tmps.size=T.size
 gotv:∀(j:Nat) (x:Value) (d:Nat),l[j]?=some (some x)→(ops[j]?).bind (·.dst)=some d→listed.getD j true=true→a.tmps[d]?=some x
 gots:∀p∈sv,a.tmps[p.1]?=some p.2
 slot:∀p∈sv,∃q i,q<m∧spl[q]?=some i∧(ops[i]?).bind (·.dst)=some p.1
 shut:∀j,j<ops.size→listed.getD j true=true→∀i,bindOf ops j i=true→listed.getD i false=true
 rest:∀s,s∉S→a.tmps[s]?=T[s]?
def chainB (ops:Array Oper) (vals:List Bool) (spl:List Nat) (S:List Nat) (n:Nat):Bool:=
 topoB ops&&decide (vals.length=ops.size)&&((List.range ops.size).all fun i=>((vals[i]?).getD false||spl.contains i)&& !((vals[i]?).getD false&&spl.contains i))&&
 ((List.range spl.length).all fun j=>j==0||bindOf ops (spl.getD j 0) (spl.getD (j-1) 0))&&spl.all (fun i=>decide (i<ops.size))&&decide spl.Nodup&&
 ((List.range ops.size).all fun i=>match(ops[i]?).bind (fun o=>o.dst) with
  |some d=>S.contains d&&decide (d<n)&&((List.range ops.size).all fun j=>i==j||((ops[j]?).bind (fun o=>o.dst) !=some d))
  |none=>spl.contains i)
theorem co_beside (hZ:Z.Ok P) (hX:X.Ok P h) (hm:P.follows .mixedOrders=true) {ops:Array Oper} {id:Nat} {T:Array Value} (l:List (Option Value)) (spl:List Nat) (S:List Nat) (hB:chainB ops (l.map Option.isSome) spl S T.size=true)
 (Sp:Nat→List (Nat×Value)→World→Prop) (h0:Sp 0 [] v)
 (hval:∀(i:Nat) (x:Value),l[i]?=some (some x)→∀(m:Nat) (sv:List (Nat×Value)) (w:World) (a:Act),Sp m sv w→a.defers=ds→a.tmps.size=T.size→(∀p∈sv,a.tmps[p.1]?=some p.2)→
  (∀(j:Nat) (y:Value) (d:Nat),l[j]?=some (some y)→(ops[j]?).bind (·.dst)=some d→bindOf ops i j=true→a.tmps[d]?=some y)→(∀s,s∉S→a.tmps[s]?=T[s]?)→
  (∀j q,spl[q]?=some j→bindOf ops i j=true→q<m)→(∀j q,spl[q]?=some j→bindOf ops j i=true→m≤q)→
  ∀rest,Co P Z h X (G (b.at (a.put ((ops[i]?).bind (·.dst)) x) (.inRegion ops rest::k)) cs) w→Co P Z h X (G (b.at a (.inRegion ops (i::rest)::k)) cs) w)
 (hspec:∀(m i:Nat),spl[m]?=some i→∀(sv:List (Nat×Value)) (w:World) (a:Act),Sp m sv w→a.defers=ds→a.tmps.size=T.size→(∀p∈sv,a.tmps[p.1]?=some p.2)→
  (∀(j:Nat) (y:Value) (d:Nat),l[j]?=some (some y)→(ops[j]?).bind (·.dst)=some d→bindOf ops i j=true→a.tmps[d]?=some y)→(∀s,s∉S→a.tmps[s]?=T[s]?)→
  ∀rest,(∀x w',Sp (m+1) (sv++dstL ops i x) w'→Co P Z h X (G (b.at (a.put ((ops[i]?).bind (·.dst)) x) (.inRegion ops rest::k)) cs) w')→Co P Z h X (G (b.at a (.inRegion ops (i::rest)::k)) cs) w)
 (hend:∀(sv:List (Nat×Value)) (w:World) (a:Act),Sp spl.length sv w→a.defers=ds→a.tmps.size=T.size→(∀p∈sv,a.tmps[p.1]?=some p.2)→
  (∀(j:Nat) (y:Value) (d:Nat),l[j]?=some (some y)→(ops[j]?).bind (·.dst)=some d→a.tmps[d]?=some y)→(∀s,s∉S→a.tmps[s]?=T[s]?)→
  Co P Z h X (G (b.at a (.inRegion ops []::k)) cs) w):Co P Z h X (G (b.at ⟨T,ds⟩ (.code (.region id ops true)::k)) cs) v:=by
 simp only[chainB,Bool.and_eq_true,decide_eq_true_eq] at hB
 obtain⟨⟨⟨⟨⟨⟨hT,hlen⟩,hall⟩,hch⟩,hslt⟩,hsnd⟩,hdst⟩:=hB
 rw[List.length_map] at hlen
 rw[List.all_eq_true] at hall hch hslt hdst
 have hcase:∀i,i<ops.size→(∃x,l[i]?=some (some x)∧i∉spl)∨(i∈spl∧∀x,l[i]?≠some (some x)):=fun i hi=>by
  have h1:=hall i (by simpa using hi)
  rw[List.getElem?_map] at h1
  cases hl:l[i]? with
  |none=>
   have:=List.getElem?_eq_none_iff.1 hl
   omega
  |some ox=>
   rw[hl] at h1
   cases ox with
   |none=>
    simp at h1
    exact .inr ⟨h1,fun x hx=>by cases hx⟩
   |some x=>
    simp at h1
    exact .inl ⟨x,rfl,h1⟩
 have hdd:∀(i d:Nat),(ops[i]?).bind (·.dst)=some d→d∈S∧d<T.size∧∀j:Nat,(ops[j]?).bind (·.dst)=some d→i=j:=fun i d hd=>by
  have hi:i<ops.size:=by
   by_cases hi:i<ops.size
   ·exact hi
   ·rw[Array.getElem?_eq_none (by omega)] at hd;cases hd
  have h1:=hdst i (by simpa using hi)
  rw[hd] at h1
  simp only[Bool.and_eq_true,decide_eq_true_eq,List.all_eq_true,List.mem_range] at h1
  refine⟨by simpa using h1.1.1,h1.1.2,fun j hj=> ?_⟩
  have hj2:j<ops.size:=by
   by_cases hj2:j<ops.size
   ·exact hj2
   ·rw[Array.getElem?_eq_none (by omega)] at hj;cases hj
  have h2:=h1.2 j hj2
  rw[hj] at h2
  simpa using h2
 have hsl:∀q i,spl[q]?=some i→i<ops.size:=fun q i hq=>by simpa using hslt i (List.mem_of_getElem? hq)
 have hsinj:∀q q' i,spl[q]?=some i→spl[q']?=some i→q=q':=fun q q' i h1 h2=>by
  obtain⟨a1,b1⟩:=List.getElem?_eq_some_iff.1 h1
  obtain⟨a2,b2⟩:=List.getElem?_eq_some_iff.1 h2
  exact(List.getElem_inj hsnd).1 (b1.trans b2.symm)
 refine co_any (Q:=fun a w=>Co P Z h X (G (b.at a (.inRegion ops []::k)) cs) w) hZ hX hm (fun _ _ h=>h) ?_
 have done:∀(listed:Array Bool) (m:Nat) (sv:List (Nat×Value)) (a:Act) (w:World),Sp m sv w→Stand ops l spl S T ds listed m sv a→(∀i,i<ops.size→listed.getD i true=true)→Co P Z h X (G (b.at a (.inRegion ops []::k)) cs) w:=by
  intro listed m sv a w hsp St hl
  have hmm:m=spl.length:=by
   by_cases e:m<spl.length
   ·have h1:=St.spe m spl[m] (List.getElem?_eq_getElem e)
    have h2:=h1.1 (hl _ (hsl m _ (List.getElem?_eq_getElem e)))
    omega
   ·have:=St.low;omega
  subst hmm
  refine hend sv w a hsp St.defers St.tsz St.gots (fun j y d hj hd=>St.gotv j y d hj hd (hl j ?_)) St.rest
  have:=(List.getElem?_eq_some_iff.1 hj).1
  omega
 have key:∀(fuel:Nat) (listed:Array Bool) (m:Nat) (sv:List (Nat×Value)) (a:Act) (w:World),Sp m sv w→Stand ops l spl S T ds listed m sv a→(List.range ops.size).countP (fun j=> !listed.getD j true)≤fuel→
  AnyTo ops (fun r a w=>r=[]∧Co P Z h X (G (b.at a (.inRegion ops []::k)) cs) w) (OpK P Z h X b k cs ops) fuel listed a w:=by
  intro fuel
  induction fuel with
  |zero=>
   intro listed m sv a w hsp St hc
   have hl:∀i,i<ops.size→listed.getD i true=true:=fun i hi=>by
    cases hq:listed.getD i true with
    |true=>rfl
    |false=>
     have:0<(List.range ops.size).countP (fun j=> !listed.getD j true):=List.countP_pos_iff.2 ⟨i,by simpa using hi,by simp[hq]⟩
     omega
   refine⟨?_,done listed m sv a w hsp St hl⟩
   apply List.eq_nil_iff_forall_not_mem.2
   intro i hi
   obtain⟨h1,h2,_⟩:=ready_bind hi
   rw[hl i h2] at h1
   cases h1
  |succ fuel ih=>
   intro listed m sv a w hsp St hc
   refine⟨fun hr=>⟨rfl,done listed m sv a w hsp St fun i hi=> ?_⟩,fun i hi rest hrest=> ?_⟩
   ·cases hq:listed.getD i true with
    |true=>rfl
    |false=>exact absurd hr (ready_some hT St.size hi hq)
   ·obtain⟨r1,r2,r3⟩:=ready_bind hi
    have hiz:i<listed.size:=by rw[St.size];exact r2
    have hset:∀j,(listed.setIfInBounds i true).getD j true=true↔j=i∨listed.getD j true=true:=fun j=>by
     rw[getD_set hiz]
     by_cases e:j=i
     ·simp[e]
     ·simp[e]
    have hbv:∀(j:Nat) (y:Value) (d:Nat),l[j]?=some (some y)→(ops[j]?).bind (·.dst)=some d→bindOf ops i j=true→a.tmps[d]?=some y:=fun j y d hj hd hb=>by
     have hjl:j<listed.size:=by have:=(List.getElem?_eq_some_iff.1 hj).1;rw[St.size];omega
     exact St.gotv j y d hj hd (by rw[getD_flip hjl true false];exact r3 j hb)
    have hcnt:(List.range ops.size).countP (fun j=> !(listed.setIfInBounds i true).getD j true)≤fuel:=by
     have hsub:∀L:List Nat,L.countP (fun j=> !(listed.setIfInBounds i true).getD j true)≤L.countP (fun j=> !listed.getD j true)∧(i∈L→L.countP (fun j=> !(listed.setIfInBounds i true).getD j true)<L.countP (fun j=> !listed.getD j true)):=by
      intro L
      induction L with
      |nil=>exact⟨Nat.le_refl _,fun hh=>by cases hh⟩
      |cons y L ihL=>
       rw[List.countP_cons,List.countP_cons]
       by_cases e:y=i
       ·subst e
        have h1:(listed.setIfInBounds y true).getD y true=true:=(hset y).2 (.inl rfl)
        rw[h1,r1]
        simp only[Bool.not_true,Bool.not_false,if_true,Bool.false_eq_true,if_false]
        exact⟨by omega,fun _=>by omega⟩
       ·have h1:(listed.setIfInBounds i true).getD y true=listed.getD y true:=by
         rw[getD_set hiz,if_neg e]
        rw[h1]
        refine⟨by omega,fun hh=> ?_⟩
        rcases List.mem_cons.1 hh with h3|h3
        ·exact absurd h3.symm e
        ·have:=ihL.2 h3;omega
     have:=(hsub (List.range ops.size)).2 (by simpa using r2)
     omega
    rcases hcase i r2 with⟨x,hx,hns⟩|⟨his,hnv⟩
    ·--a value
     have hnd:∀q j,spl[q]?=some j→j≠i:=fun q j hq e=>hns (e▸List.mem_of_getElem? hq)
     refine hval i x hx m sv w a hsp St.defers St.tsz St.gots hbv St.rest (fun j q hq hb=> ?_) (fun j q hq hb=> ?_) rest (hrest _ _ (ih _ m sv _ w hsp ?_ hcnt))
     ·have hjl:j<listed.size:=by rw[St.size];exact hsl q j hq
      exact(St.spe q j hq).1 (by rw[getD_flip hjl true false];exact r3 j hb)
     ·by_cases e:m≤q
      ·exact e
      ·exfalso
       have h1:=(St.spe q j hq).2 (by omega)
       have h2:=St.shut j (hsl q j hq) h1 i hb
       rw[getD_flip hiz false true,r1] at h2
       cases h2
     ·--behind it
      have hlt:∀d,(ops[i]?).bind (·.dst)=some d→d<a.tmps.size:=fun d hd=>by rw[St.tsz];exact(hdd i d hd).2.1
      have hput:∀s,(ops[i]?).bind (·.dst)≠some s→(a.put ((ops[i]?).bind (·.dst)) x).tmps[s]?=a.tmps[s]?:=fun s hs=>by
       cases hd:(ops[i]?).bind (·.dst) with
       |none=>rfl
       |some d=>
        show(a.tmps.setIfInBounds d x)[s]?=_
        exact Array.getElem?_setIfInBounds_ne (fun e=>hs (by rw[hd,e]))
      have hput2:∀d,(ops[i]?).bind (·.dst)=some d→(a.put ((ops[i]?).bind (·.dst)) x).tmps[d]?=some x:=fun d hd=>by
       rw[hd]
       exact Array.getElem?_setIfInBounds_self_of_lt (hlt d hd)
      refine⟨by simp[St.size],St.low,fun q j hq=> ?_, ?_, ?_,fun j y d hj hd hl=> ?_,fun p hp=> ?_,St.slot,fun j hjz hl y hb=> ?_,fun s hs=> ?_⟩
      ·rw[hset,←St.spe q j hq]
       exact⟨fun e=>e.resolve_left (hnd q j hq),.inr⟩
      ·cases hd:(ops[i]?).bind (·.dst)<;>exact St.defers
      ·cases hd:(ops[i]?).bind (·.dst)<;>simp[Act.put,St.tsz]
      ·by_cases e:j=i
       ·subst e
        rw[hx] at hj
        rw[hput2 d hd]
        exact congrArg some (Option.some.inj (Option.some.inj hj))
       ·rw[hput d (fun e2=>e ((hdd i d e2).2.2 j hd).symm)]
        exact St.gotv j y d hj hd (((hset j).1 hl).resolve_left e)
      ·obtain⟨q2,i2,_,hi2,hd2⟩:=St.slot p hp
       rw[hput p.1 (fun e2=>by have h3:=(hdd i p.1 e2).2.2 i2 hd2;subst h3;exact hns (List.mem_of_getElem? hi2))]
       exact St.gots p hp
      ·have hyl:listed.getD y false=true:=by
        rcases(hset j).1 hl with rfl|hl
        ·exact r3 y hb
        ·exact St.shut j hjz hl y hb
       have hys:y<listed.size:=by
        by_cases hys:y<listed.size
        ·exact hys
        ·simp[Array.getD,hys] at hyl
       rw[getD_flip (by simpa using hys) false true,hset]
       exact .inr (by rw[getD_flip hys true false];exact hyl)
      ·rw[hput s (fun e2=>hs (hdd i s e2).1)]
       exact St.rest s hs
    ·--one of the chain
     obtain⟨q,hql,hqi⟩:=List.getElem_of_mem his
     have hq:spl[q]?=some i:=by rw[List.getElem?_eq_getElem hql,hqi]
     have hqm:q=m:=by
      have h1:¬q<m:=fun e=>by
       have:=(St.spe q i hq).2 e
       rw[r1] at this
       cases this
      by_cases h0:q=0
      ·omega
      ·have hb:=hch q (by simpa using hql)
       simp only[Bool.or_eq_true,beq_iff_eq] at hb
       have hb:=hb.resolve_left h0
       rw[List.getD_eq_getElem?_getD,List.getD_eq_getElem?_getD,hq,List.getElem?_eq_getElem (show q-1<spl.length by omega)] at hb
       simp only[Option.getD_some] at hb
       have hq1:spl[q-1]?=some spl[q-1]:=List.getElem?_eq_getElem (by omega)
       have h3:=r3 _ hb
       have h4:=(St.spe (q-1) _ hq1).1 (by rw[getD_flip (by rw[St.size];exact hsl _ _ hq1) true false];exact h3)
       omega
     subst hqm
     refine hspec q i hq sv w a hsp St.defers St.tsz St.gots hbv St.rest rest fun x w' hsp'=>hrest _ _ (ih _ (q+1) _ _ w' hsp' ?_ hcnt)
     have hlt:∀d,(ops[i]?).bind (·.dst)=some d→d<a.tmps.size:=fun d hd=>by rw[St.tsz];exact(hdd i d hd).2.1
     have hput:∀s,(ops[i]?).bind (·.dst)≠some s→(a.put ((ops[i]?).bind (·.dst)) x).tmps[s]?=a.tmps[s]?:=fun s hs=>by
      cases hd:(ops[i]?).bind (·.dst) with
      |none=>rfl
      |some d=>
       show(a.tmps.setIfInBounds d x)[s]?=_
       exact Array.getElem?_setIfInBounds_ne (fun e=>hs (by rw[hd,e]))
     have hput2:∀d,(ops[i]?).bind (·.dst)=some d→(a.put ((ops[i]?).bind (·.dst)) x).tmps[d]?=some x:=fun d hd=>by
      rw[hd]
      exact Array.getElem?_setIfInBounds_self_of_lt (hlt d hd)
     refine⟨by simp[St.size],by omega,fun q' j hq'=> ?_, ?_, ?_,fun j y d hj hd hl=> ?_,fun p hp=> ?_,fun p hp=> ?_,fun j hjz hl y hb=> ?_,fun s hs=> ?_⟩
     ·rw[hset]
      by_cases e:j=i
      ·subst e
       have:=hsinj q q' _ hq hq'
       exact⟨fun _=>by omega,fun _=> .inl rfl⟩
      ·have hne:q'≠q:=fun e2=>by subst e2;exact e (Option.some.inj (hq'.symm.trans hq))
       have h1:=St.spe q' j hq'
       exact⟨fun h2=>by have:=h1.1 (h2.resolve_left e);omega,fun h2=> .inr (h1.2 (by omega))⟩
     ·cases hd:(ops[i]?).bind (·.dst)<;>exact St.defers
     ·cases hd:(ops[i]?).bind (·.dst)<;>simp[Act.put,St.tsz]
     ·have e:j≠i:=fun e=>by subst e;exact hnv y hj
      rw[hput d (fun e2=>e ((hdd i d e2).2.2 j hd).symm)]
      exact St.gotv j y d hj hd (((hset j).1 hl).resolve_left e)
     ·rcases List.mem_append.1 hp with hp|hp
      ·by_cases e2:(ops[i]?).bind (·.dst)=some p.1
       ·obtain⟨q2,i2,hqq,hi2,hd2⟩:=St.slot p hp
        obtain rfl:=(hdd i p.1 e2).2.2 i2 hd2
        have:=hsinj q q2 _ hq hi2
        omega
       ·rw[hput p.1 e2]
        exact St.gots p hp
      ·unfold dstL at hp
       cases hd:(ops[i]?).bind (·.dst) with
       |none=>rw[hd] at hp;cases hp
       |some d=>
        rw[hd] at hp
        obtain rfl:=List.mem_singleton.1 hp
        have:=hput2 d hd
        rw[hd] at this
        exact this
     ·rcases List.mem_append.1 hp with hp|hp
      ·obtain⟨q2,i2,hqq,hi2,hd2⟩:=St.slot p hp
       exact⟨q2,i2,by omega,hi2,hd2⟩
      ·unfold dstL at hp
       cases hd:(ops[i]?).bind (·.dst) with
       |none=>rw[hd] at hp;cases hp
       |some d=>
        rw[hd] at hp
        obtain rfl:=List.mem_singleton.1 hp
        exact⟨q,i,by omega,hq,hd⟩
     ·have hyl:listed.getD y false=true:=by
       rcases(hset j).1 hl with rfl|hl
       ·exact r3 y hb
       ·exact St.shut j hjz hl y hb
      have hys:y<listed.size:=by
       by_cases hys:y<listed.size
       ·exact hys
       ·simp[Array.getD,hys] at hyl
      rw[getD_flip (by simpa using hys) false true,hset]
      exact .inr (by rw[getD_flip hys true false];exact hyl)
     ·rw[hput s (fun e2=>hs (hdd i s e2).1)]
      exact St.rest s hs
 have hg:∀j,(Array.replicate ops.size false).getD j true=true→ops.size≤j:=fun j hj=>by
  by_cases hlt2:j<ops.size
  ·simp[Array.getD,hlt2] at hj
  ·omega
 exact key ops.size _ 0 [] ⟨T,ds⟩ v h0 ⟨by simp,by omega,fun q i hq=>⟨fun hl=>by have:=hg i hl;have:=hsl q i hq;omega,fun hl=>by omega⟩,rfl,rfl,fun j y d hj _ hl=>by
  have:=hg j hl
  have:=(List.getElem?_eq_some_iff.1 hj).1
  omega,(fun p hp=>by cases hp),(fun p hp=>by cases hp),fun j hj hl=>by have:=hg j hl;omega,fun _ _=>rfl⟩ (by
  have:=List.countP_le_length (l:=List.range ops.size) (p:=fun j=> !(Array.replicate ops.size false).getD j true)
  rw[List.length_range] at this
  omega)
end
section
variable {P:Program} {L:Nat→Bool} {M:String→Bool} {Z:Goal} {h:Nat} {X:Fx} {b:Frame} {k:List Item} {cs:List Frame} {v:World}
theorem co_opS (hZ:Z.Ok P) (hX:X.Ok P h) (T:Table P L M) (hk:b.kind≠.early) {R:World→Prop} {tmps:Array Value} {ds:List Deferred} {ops:Array Oper} {i:Nat} {rest:List Nat} {o:Oper} (ho:ops[i]?=some o) (hw:Region.wanted o (yielded ops tmps)=true)
 (hpo:plainOp P L M o.op=true) (hrun:∀u,Same u v→∃u',(execOp (⟨tmps,[]⟩:Act).eval o).run P u=.ok .skip u'∧R u')
 (hc:∀u',R u'→Co P Z h X (G (b.at ((⟨tmps,ds⟩:Act).put o.dst undef) (.inRegion ops rest::k)) cs) u'):Co P Z h X (G (b.at ⟨tmps,ds⟩ (.inRegion ops (i::rest)::k)) cs) v:=by
 intro T1 T0 gs w sl q ht hi hgs
 have hi':In Z.old P X h T0 gs w q {v with tape:=w.tape,drawn:=w.drawn}:=hi.same ⟨rfl,rfl,rfl⟩
 refine co_step (v:=v) hZ hX rfl (fun w h1 _ _=> ?_) T1 T0 gs w sl q ht hi hgs
 obtain⟨u',e1,e2⟩:=hrun {v with tape:=w.tape,drawn:=w.drawn} ⟨rfl,rfl,rfl⟩
 obtain⟨hS,_⟩:=plain_op (H:=X.H) T o hpo ⟨tmps,[]⟩
 cases hr:(execOp (⟨tmps,[]⟩:Act).eval o).runT P {v with tape:=w.tape,drawn:=w.drawn} #[] with
 |mk res es'=>
  have hr1:(execOp (⟨tmps,[]⟩:Act).eval o).run P {v with tape:=w.tape,drawn:=w.drawn}=res:=by rw[←Sem.runT_fst P _ _ #[],hr]
  rw[e1] at hr1
  subst hr1
  obtain⟨t1,n1,s1,kk,d1,F⟩:=hS.1 X.H {v with tape:=w.tape,drawn:=w.drawn} _ u' #[] es' hi.nv hi.size hr
  obtain⟨w',gs,f1,f2,f3,f4,f5,f6⟩:=F w #[] (h1.same_to ⟨rfl,rfl,rfl⟩) (fun _ _ _=>rfl)
  have hrw:(execOp (⟨tmps,ds⟩:Act).eval o).run P w=.ok .skip w':=by
   show(execOp (⟨tmps,[]⟩:Act).eval o).run P w=_
   rw[←Sem.runT_fst P _ w #[],f1]
  refine⟨_,w',u',_,fun e he=> ?_,stepG_none (a:=⟨tmps,ds⟩) ho hw hk hrw,f5,s1,f2,n1,hc u' e2⟩
  refine f6 e ?_
  have h7:=seen_sub he
  unfold Sem.events at h7
  rw[show(execOp (⟨tmps,ds⟩:Act).eval o).runT P w #[]=_ from f1] at h7
  simpa using h7
end
end Co
end Go.Proofs.Ytlngbdggehghgaa

namespace Go.Proofs.Ytlngbdggehghgaa
set_option linter.unusedSimpArgs false
set_option linter.unusedVariables false
theorem Cells.turns {w:World} {s:Nat} {a b c d e:Value} (h:Cells w s [a,b,c,d,e]) (y:Value):Cells (w.setCell ⟨s,2,none⟩ y) s [a,b,y,d,e]:=by
 refine⟨fun j u hu=> ?_,fun j=>by simp[h.f j],by simpa using h.lt⟩
 by_cases e:j=2
 ·subst e
  rw[World.cell?_setCell_same w _ _ (by rw[h.c 2 _ rfl])]
  exact hu
 ·rw[World.cell?_setCell_other w _ _ _ (fun e2=>by injection e2;omega)]
  refine h.c j u ?_
  match j,hu,e with
  |0,hu,_=>exact hu
  |1,hu,_=>exact hu
  |3,hu,_=>exact hu
  |4,hu,_=>exact hu
  |n+5,hu,_=>simp at hu
theorem slT_one (w:World) (g:Nat) (x:Tn) (t:TypeId) (hg:g=w.heap.size):Sl tnR (w.alloc (.cells #[.int .i64 x.task,.int .i64 x.wait.kind,.int .i64 x.wait.obj,.int .i64 x.wait.til,.int .i64 x.among] t)) (.slice (some ⟨g,0,none⟩) 1 1) [x]:=by
 subst hg
 exact Own.sl (Own.lit (e:=t) (R:=tnR) (B:=w.heap.size) (cells:=x.cells) rfl (Nat.le_refl _) (Rep.many_one (R:=tnR) (x:=x) rfl) rfl (by decide))
theorem run_append_op {P:Program} {o:Oper} {a:Act} {w w':World} (s y:Operand) (t:TypeId) (ho:o.op=.call {callee:=.builtin .append,args:=#[s,y],argTypes:=#[t,t]}) {v x v':Value} (hs:a.eval s=v) (he:a.eval y=x)
 (hrun:(Builtin.append_ #[t,t] o.type #[v,x]).run P w=.ok v' w'):(execOp a.eval o).run P w=.ok (.value v') w':=by
 unfold execOp
 simp only[ho,resolve,invoke,builtin,Sem.run_bind,Sem.run_pure,Result.andThen_ok,List.map_toArray,List.map_cons,List.map_nil,hs,he,hrun]
namespace Co
open Go.Conc Go.RowKit
theorem Same.alloc {u v:World} (h:Same u v) (o:Obj):Same (u.alloc o) (v.alloc o):=⟨by show u.heap.push o=v.heap.push o;rw[h.heap],h.os,h.output⟩
theorem Same.set {u v:World} (h:Same u v) (a:Addr) (x:Value):Same (u.setCell a x) (v.setCell a x):=⟨by unfold World.setCell;simp only[h.heap],h.os,h.output⟩
noncomputable def reg7:Code:=fstC (sndC body32)
def Sp7 (v:World) (B s:Nat) (a0 tv uv a3 a4:Value) (ts:List Tn) (r:Ru) (n:Nat) (m:Nat) (sv:List (Nat×Value)) (w:World):Prop:=
 match m with
 |0=>sv=[]∧w=v
 |1=>sv=[(55,.slice (some ⟨v.heap.size,0,none⟩) 1 1)]∧w=v.alloc (.cells #[.int .i64 r.task.id,.int .i64 r.wait.kind,.int .i64 r.wait.obj,.int .i64 r.wait.til,.int .i64 (n:Int)] 79)
 |m=> ∃uv',sv=[(55,.slice (some ⟨v.heap.size,0,none⟩) 1 1),(56,uv')]∧Own tnR 79 B w uv' (ts++[⟨r.task.id,r.wait,n⟩])∧(uv'.ownBlock=uv.ownBlock∨∃k,uv'.ownBlock=some k∧v.heap.size≤k)∧
  Chg (fun k=>k=s∨uv.ownBlock=some k) v w∧(if m=2 then Cells w s [a0,tv,uv,a3,a4] else Cells w s [a0,tv,uv',a3,a4])
set_option maxRecDepth 100000 in
set_option maxHeartbeats 4000000 in
theorem give_turn {Z:Goal} {X:Fx} {B s b:Nat} {a0 tv uv a3 a4 lv:Value} {ts:List Tn} {r:Ru} {v:World} {n:Nat} {ds:List Deferred} {k:List Item} {cs:List Frame}
 (hZ:Z.Ok Try.prog) (hX:X.Ok Try.prog 0) (hbox:Cells v s [a0,tv,uv,a3,a4]) (hown:Own tnR 79 B v uv ts) (hrun:Cells v b r.cells) (hl:∃A c,lv=.slice A n c) (hB:B≤v.heap.size) (hbs:b≠s) (hus:uv.ownBlock≠some s) (hub:uv.ownBlock≠some b) (hts:ts.length≤20000)
 (hnext:∀(v':World) (uv':Value) (Jc Yf Y5 Qd Yr Qj Yi Yw Ju Jn Yo Jm Jz J5 Jp Jb Jr Y9 Yc Js Ys Ji Yh Y8 J1 Qe Ja Ye Jd Yu Y4 Jt J3 Yb Jg Y3 Jw Yg Qa Y0 Yv Yd Jy Ya Y2 Jq J0 Jh Yp Yn J6 Y1 Jv Yl Jj Yt Qm Qk Qn Qq Qp Qo Ql Qr Qg Qh Qf Qi Y7 Yy Yj Jx Y6 Ym J4 Yz Qc Yx Yq Qb Jo J7 Jk Jl J8 J9 Yk Jf J2 Je:Value),Cells v' s [a0,tv,uv',a3,a4]→Own tnR 79 B v' uv' (ts++[⟨r.task.id,r.wait,n⟩])→(uv'.ownBlock=uv.ownBlock∨∃k,uv'.ownBlock=some k∧v.heap.size≤k)→Chg (fun k=>k=s∨uv.ownBlock=some k) v v'→
  Co Try.prog Z 0 X (G ((Go.Conc.base 32).at ⟨#[.pointer (some ⟨s,0,none⟩),lv,.pointer (some ⟨b,0,none⟩),Jc,Yf,Y5,Qd,Yr,Qj,Yi,Yw,Ju,Jn,Yo,Jm,Jz,J5,Jp,Jb,Jr,Y9,Yc,Js,Ys,Ji,Yh,Y8,J1,Qe,Ja,Ye,Jd,Yu,Y4,Jt,J3,Yb,Jg,Y3,Jw,Yg,Qa,Y0,Yv,Yd,Jy,Ya,Y2,Jq,J0,Jh,Yp,Yn,J6,Y1,Jv,Yl,Jj,Yt,Qm,Qk,Qn,Qq,Qp,Qo,Ql,Qr,Qg,Qh,Qf,Qi,Y7,Yy,Yj,Jx,Y6,Ym,J4,Yz,Qc,Yx,Yq,Qb,Jo,J7,Jk,Jl,J8,J9,Yk,Jf,J2,Je],ds⟩ k) cs) v'):
 ∀(Jc Yf Y5 Qd Yr Qj Yi Yw Ju Jn Yo Jm Jz J5 Jp Jb Jr Y9 Yc Js Ys Ji Yh Y8 J1 Qe Ja Ye Jd Yu Y4 Jt J3 Yb Jg Y3 Jw Yg Qa Y0 Yv Yd Jy Ya Y2 Jq J0 Jh Yp Yn J6 Y1 Jv Yl Jj Yt Qm Qk Qn Qq Qp Qo Ql Qr Qg Qh Qf Qi Y7 Yy Yj Jx Y6 Ym J4 Yz Qc Yx Yq Qb Jo J7 Jk Jl J8 J9 Yk Jf J2 Je:Value),Co Try.prog Z 0 X (G ((Go.Conc.base 32).at ⟨#[.pointer (some ⟨s,0,none⟩),lv,.pointer (some ⟨b,0,none⟩),Jc,Yf,Y5,Qd,Yr,Qj,Yi,Yw,Ju,Jn,Yo,Jm,Jz,J5,Jp,Jb,Jr,Y9,Yc,Js,Ys,Ji,Yh,Y8,J1,Qe,Ja,Ye,Jd,Yu,Y4,Jt,J3,Yb,Jg,Y3,Jw,Yg,Qa,Y0,Yv,Yd,Jy,Ya,Y2,Jq,J0,Jh,Yp,Yn,J6,Y1,Jv,Yl,Jj,Yt,Qm,Qk,Qn,Qq,Qp,Qo,Ql,Qr,Qg,Qh,Qf,Qi,Y7,Yy,Yj,Jx,Y6,Ym,J4,Yz,Qc,Yx,Yq,Qb,Jo,J7,Jk,Jl,J8,J9,Yk,Jf,J2,Je],ds⟩ (.code reg7::k)) cs) v:=by
 intro Jc Yf Y5 Qd Yr Qj Yi Yw Ju Jn Yo Jm Jz J5 Jp Jb Jr Y9 Yc Js Ys Ji Yh Y8 J1 Qe Ja Ye Jd Yu Y4 Jt J3 Yb Jg Y3 Jw Yg Qa Y0 Yv Yd Jy Ya Y2 Jq J0 Jh Yp Yn J6 Y1 Jv Yl Jj Yt Qm Qk Qn Qq Qp Qo Ql Qr Qg Qh Qf Qi Y7 Yy Yj Jx Y6 Ym J4 Yz Qc Yx Yq Qb Jo J7 Jk Jl J8 J9 Yk Jf J2 Je
 have slt:=hbox.lt
 have SpR:∀m sv w,Sp7 v B s a0 tv uv a3 a4 ts r n m sv w→Cells w b r.cells:=fun m sv w hsp=>by
  match m,hsp with
  |0,⟨_,e⟩=>subst e;exact hrun
  |1,⟨_,e⟩=>subst e;exact hrun.alloc _
  |m+2,⟨uv',_,_,_,hc,_⟩=>exact hrun.chg hc (fun e=>e.elim hbs hub)
 have SpC:∀m sv w,Sp7 v B s a0 tv uv a3 a4 ts r n m sv w→m≤1→w.cell? ⟨s,2,none⟩=some uv:=fun m sv w hsp hm=>by
  match m,hsp,hm with
  |0,⟨_,e⟩,_=>subst e;exact hbox.c 2 _ rfl
  |1,⟨_,e⟩,_=>subst e;exact(hbox.alloc _).c 2 _ rfl
 simp only[reg7,body32,Try.f32,Option.getD_some,fstC,sndC]
 refine co_beside hZ hX (by rfl) [some (.pointer (some ⟨s,0,none⟩)),some (.pointer (some ⟨s,0,none⟩)),some (.pointer (some ⟨s,0,none⟩)),some (.pointer (some ⟨s,2,none⟩)),some (uv),some (.pointer (some ⟨b,0,none⟩)),some (.pointer (some ⟨b,0,none⟩)),some (.pointer (some ⟨b,0,none⟩)),some (.pointer (some ⟨b,0,none⟩)),some (.int .i64 r.task.id),some (.pointer (some ⟨b,0,none⟩)),some (.pointer (some ⟨b,0,none⟩)),some (.pointer (some ⟨b,7,none⟩)),some (.agg #[.int .i64 r.wait.kind,.int .i64 r.wait.obj,.int .i64 r.wait.til]),some (lv),some (.int .i64 (n:Int)),some (.agg #[.int .i64 r.task.id,.int .i64 r.wait.kind,.int .i64 r.wait.obj,.int .i64 r.wait.til,.int .i64 (n:Int)]),none,none,some (.pointer (some ⟨s,0,none⟩)),some (.pointer (some ⟨s,2,none⟩)),none] [17,18,21] (List.range' 38 21) (by kernel_rfl) (Sp7 v B s a0 tv uv a3 a4 ts r n) ⟨rfl,rfl⟩ ?_ ?_ ?_
 ·intro i x hx m sv w a hsp hds hsz hsv hb hr hbi hbe rest hc
  have hl':=hl
  match i,hx with
  |0,hx=>
   obtain rfl:=Option.some.inj (Option.some.inj hx)
   have e0:a.tmps[0]?=some (.pointer (some ⟨s,0,none⟩)):=hr 0 (by decide)
   refine co_value hZ hX _ rfl rfl (by decide) (fun _=> ?_) (fun _=> ?_) hc
   ·simp[go_sem,execOp,e0]
   ·simp[go_sem,execOp,e0]
  |1,hx=>
   obtain rfl:=Option.some.inj (Option.some.inj hx)
   have e0:a.tmps[0]?=some (.pointer (some ⟨s,0,none⟩)):=hr 0 (by decide)
   refine co_value hZ hX _ rfl rfl (by decide) (fun _=> ?_) (fun _=> ?_) hc
   ·simp[go_sem,execOp,e0]
   ·simp[go_sem,execOp,e0]
  |2,hx=>
   obtain rfl:=Option.some.inj (Option.some.inj hx)
   have e0:a.tmps[39]?=some (.pointer (some ⟨s,0,none⟩)):=hb 1 _ 39 rfl rfl (by kernel_rfl)
   refine co_value hZ hX _ rfl rfl (by decide) (fun _=> ?_) (fun _=> ?_) hc
   ·simp[go_sem,execOp,e0]
   ·simp[go_sem,execOp,e0]
  |3,hx=>
   obtain rfl:=Option.some.inj (Option.some.inj hx)
   have e0:a.tmps[40]?=some (.pointer (some ⟨s,0,none⟩)):=hb 2 _ 40 rfl rfl (by kernel_rfl)
   refine co_value hZ hX _ rfl rfl (by decide) (fun _=> ?_) (fun _=> ?_) hc
   ·simp[go_sem,execOp,e0]
   ·simp[go_sem,execOp,e0]
  |4,hx=>
   obtain rfl:=Option.some.inj (Option.some.inj hx)
   have e0:a.tmps[41]?=some (.pointer (some ⟨s,2,none⟩)):=hb 3 _ 41 rfl rfl (by kernel_rfl)
   have hm:=hbe 18 1 rfl (by kernel_rfl)
   have c2:=SpC m sv w hsp hm
   obtain⟨tm,ds'⟩:=a
   refine co_op hZ hX TT.toTable (by decide) (R:=fun y u=>y=_∧Same u w) rfl rfl (by kernel_rfl) (fun u hu=> ?_) (fun y u hh=>by rw[hh.1];exact co_same hh.2 hc)
   have hcell:∀a,u.cell? a=w.cell? a:=fun a=>by unfold World.cell?;rw[hu.heap]
   refine⟨_,u, ?_,rfl,hu⟩
   simp only[←hcell] at c2
   simp[go_sem,execOp,e0,c2]
  |5,hx=>
   obtain rfl:=Option.some.inj (Option.some.inj hx)
   have e0:a.tmps[2]?=some (.pointer (some ⟨b,0,none⟩)):=hr 2 (by decide)
   refine co_value hZ hX _ rfl rfl (by decide) (fun _=> ?_) (fun _=> ?_) hc
   ·simp[go_sem,execOp,e0]
   ·simp[go_sem,execOp,e0]
  |6,hx=>
   obtain rfl:=Option.some.inj (Option.some.inj hx)
   have e0:a.tmps[43]?=some (.pointer (some ⟨b,0,none⟩)):=hb 5 _ 43 rfl rfl (by kernel_rfl)
   refine co_value hZ hX _ rfl rfl (by decide) (fun _=> ?_) (fun _=> ?_) hc
   ·simp[go_sem,execOp,e0]
   ·simp[go_sem,execOp,e0]
  |7,hx=>
   obtain rfl:=Option.some.inj (Option.some.inj hx)
   have e0:a.tmps[44]?=some (.pointer (some ⟨b,0,none⟩)):=hb 6 _ 44 rfl rfl (by kernel_rfl)
   refine co_value hZ hX _ rfl rfl (by decide) (fun _=> ?_) (fun _=> ?_) hc
   ·simp[go_sem,execOp,e0]
   ·simp[go_sem,execOp,e0]
  |8,hx=>
   obtain rfl:=Option.some.inj (Option.some.inj hx)
   have e0:a.tmps[45]?=some (.pointer (some ⟨b,0,none⟩)):=hb 7 _ 45 rfl rfl (by kernel_rfl)
   refine co_value hZ hX _ rfl rfl (by decide) (fun _=> ?_) (fun _=> ?_) hc
   ·simp[go_sem,execOp,e0]
   ·simp[go_sem,execOp,e0]
  |9,hx=>
   obtain rfl:=Option.some.inj (Option.some.inj hx)
   have e0:a.tmps[46]?=some (.pointer (some ⟨b,0,none⟩)):=hb 8 _ 46 rfl rfl (by kernel_rfl)
   have hC:=SpR m sv w hsp
   have r0:=hC.c 0 _ rfl
   obtain⟨tm,ds'⟩:=a
   refine co_op hZ hX TT.toTable (by decide) (R:=fun y u=>y=_∧Same u w) rfl rfl (by kernel_rfl) (fun u hu=> ?_) (fun y u hh=>by rw[hh.1];exact co_same hh.2 hc)
   have hcell:∀a,u.cell? a=w.cell? a:=fun a=>by unfold World.cell?;rw[hu.heap]
   refine⟨_,u, ?_,rfl,hu⟩
   simp only[←hcell] at r0
   simp[go_sem,execOp,e0,r0]
  |10,hx=>
   obtain rfl:=Option.some.inj (Option.some.inj hx)
   have e0:a.tmps[2]?=some (.pointer (some ⟨b,0,none⟩)):=hr 2 (by decide)
   refine co_value hZ hX _ rfl rfl (by decide) (fun _=> ?_) (fun _=> ?_) hc
   ·simp[go_sem,execOp,e0]
   ·simp[go_sem,execOp,e0]
  |11,hx=>
   obtain rfl:=Option.some.inj (Option.some.inj hx)
   have e0:a.tmps[48]?=some (.pointer (some ⟨b,0,none⟩)):=hb 10 _ 48 rfl rfl (by kernel_rfl)
   refine co_value hZ hX _ rfl rfl (by decide) (fun _=> ?_) (fun _=> ?_) hc
   ·simp[go_sem,execOp,e0]
   ·simp[go_sem,execOp,e0]
  |12,hx=>
   obtain rfl:=Option.some.inj (Option.some.inj hx)
   have e0:a.tmps[49]?=some (.pointer (some ⟨b,0,none⟩)):=hb 11 _ 49 rfl rfl (by kernel_rfl)
   refine co_value hZ hX _ rfl rfl (by decide) (fun _=> ?_) (fun _=> ?_) hc
   ·simp[go_sem,execOp,e0]
   ·simp[go_sem,execOp,e0]
  |13,hx=>
   obtain rfl:=Option.some.inj (Option.some.inj hx)
   have e0:a.tmps[50]?=some (.pointer (some ⟨b,7,none⟩)):=hb 12 _ 50 rfl rfl (by kernel_rfl)
   have hC:=SpR m sv w hsp
   have r7:=hC.c 7 _ rfl
   have r8:=hC.c 8 _ rfl
   have r9:=hC.c 9 _ rfl
   obtain⟨tm,ds'⟩:=a
   refine co_op hZ hX TT.toTable (by decide) (R:=fun y u=>y=_∧Same u w) rfl rfl (by kernel_rfl) (fun u hu=> ?_) (fun y u hh=>by rw[hh.1];exact co_same hh.2 hc)
   have hcell:∀a,u.cell? a=w.cell? a:=fun a=>by unfold World.cell?;rw[hu.heap]
   refine⟨_,u, ?_,rfl,hu⟩
   simp only[←hcell] at r7 r8 r9
   simp[go_sem,execOp,e0,r7,r8,r9]
  |14,hx=>
   obtain rfl:=Option.some.inj (Option.some.inj hx)
   have e0:a.tmps[1]?=some (lv):=hr 1 (by decide)
   refine co_value hZ hX _ rfl rfl (by decide) (fun _=> ?_) (fun _=> ?_) hc
   ·simp[go_sem,execOp,e0]
   ·simp[go_sem,execOp,e0]
  |15,hx=>
   obtain rfl:=Option.some.inj (Option.some.inj hx)
   have e0:a.tmps[52]?=some (lv):=hb 14 _ 52 rfl rfl (by kernel_rfl)
   obtain⟨lA,lc,rfl⟩:=hl'
   refine co_value hZ hX _ rfl rfl (by decide) (fun _=> ?_) (fun _=> ?_) hc
   ·simp[go_sem,execOp,e0]
   ·simp[go_sem,execOp,e0]
  |16,hx=>
   obtain rfl:=Option.some.inj (Option.some.inj hx)
   have e0:a.tmps[47]?=some (.int .i64 r.task.id):=hb 9 _ 47 rfl rfl (by kernel_rfl)
   have e1:a.tmps[51]?=some (.agg #[.int .i64 r.wait.kind,.int .i64 r.wait.obj,.int .i64 r.wait.til]):=hb 13 _ 51 rfl rfl (by kernel_rfl)
   have e2:a.tmps[53]?=some (.int .i64 (n:Int)):=hb 15 _ 53 rfl rfl (by kernel_rfl)
   refine co_value hZ hX _ rfl rfl (by decide) (fun _=> ?_) (fun _=> ?_) hc
   ·simp[go_sem,execOp,e0,e1,e2]
   ·simp[go_sem,execOp,e0,e1,e2]
  |17,hx=>exact absurd hx (by simp)
  |18,hx=>exact absurd hx (by simp)
  |19,hx=>
   obtain rfl:=Option.some.inj (Option.some.inj hx)
   have e0:a.tmps[38]?=some (.pointer (some ⟨s,0,none⟩)):=hb 0 _ 38 rfl rfl (by kernel_rfl)
   refine co_value hZ hX _ rfl rfl (by decide) (fun _=> ?_) (fun _=> ?_) hc
   ·simp[go_sem,execOp,e0]
   ·simp[go_sem,execOp,e0]
  |20,hx=>
   obtain rfl:=Option.some.inj (Option.some.inj hx)
   have e0:a.tmps[57]?=some (.pointer (some ⟨s,0,none⟩)):=hb 19 _ 57 rfl rfl (by kernel_rfl)
   refine co_value hZ hX _ rfl rfl (by decide) (fun _=> ?_) (fun _=> ?_) hc
   ·simp[go_sem,execOp,e0]
   ·simp[go_sem,execOp,e0]
  |21,hx=>exact absurd hx (by simp)
  |i+22,hx=>exact absurd hx (by simp)
 ·intro m i hi sv w a hsp hds hsz hsv hb hr rest hc
  match m,hi with
  |0,hi=>
   obtain rfl:=Option.some.inj hi
   obtain⟨rfl,rfl⟩:=hsp
   have e0:a.tmps[54]?=some (.agg #[.int .i64 r.task.id,.int .i64 r.wait.kind,.int .i64 r.wait.obj,.int .i64 r.wait.til,.int .i64 (n:Int)]):=hb 16 _ 54 rfl rfl (by kernel_rfl)
   obtain⟨tm,ds'⟩:=a
   refine co_op hZ hX TT.toTable (by decide) (R:=fun y u=>y=.slice (some ⟨w.heap.size,0,none⟩) 1 1∧Same u (w.alloc (.cells #[.int .i64 r.task.id,.int .i64 r.wait.kind,.int .i64 r.wait.obj,.int .i64 r.wait.til,.int .i64 (n:Int)] 79))) rfl rfl (by kernel_rfl) (fun u hu=> ?_) (fun y u hh=>by rw[hh.1];exact co_same hh.2 (hc _ _ ⟨rfl,rfl⟩))
   have hz:u.heap.size=w.heap.size:=by rw[hu.heap]
   refine⟨_,u.alloc (.cells #[.int .i64 r.task.id,.int .i64 r.wait.kind,.int .i64 r.wait.obj,.int .i64 r.wait.til,.int .i64 (n:Int)] 79), ?_,rfl,hu.alloc _⟩
   rw[←hz]
   simp[go_sem,execOp,e0]
  |1,hi=>
   obtain rfl:=Option.some.inj hi
   obtain⟨rfl,rfl⟩:=hsp
   have e0:a.tmps[42]?=some uv:=hb 4 _ 42 rfl rfl (by kernel_rfl)
   have e1:a.tmps[55]?=some (.slice (some ⟨v.heap.size,0,none⟩) 1 1):=hsv _ List.mem_cons_self
   obtain⟨tm,ds'⟩:=a
   refine co_op hZ hX TT.toTable (by decide) (R:=fun y u=>Sp7 v B s a0 tv uv a3 a4 ts r n 2 ([(55,.slice (some ⟨v.heap.size,0,none⟩) 1 1)]++[(56,y)]) u) rfl rfl (by kernel_rfl) (fun u hu=> ?_) (fun y u hh=>hc _ _ hh)
   have hcv:Chg (fun _=>False) v u:=(Chg.alloc (fun _=>False) v _).trans (same_chg hu) (fun _ _=>id)
   have HS:Sl tnR u (.slice (some ⟨v.heap.size,0,none⟩) 1 1) [⟨r.task.id,r.wait,n⟩]:=(slT_one v v.heap.size ⟨r.task.id,r.wait,n⟩ 79 rfl).chg tnR_flat (same_chg (F:=fun _=>False) hu) (fun _ _=>id)
   obtain⟨v',w',hrun',h2,h3,h4⟩:=run_append_sl (P:=Try.prog) u tnR B 50 50 79 _ 40 Try.underlying50 infoT rfl (by decide) uv ts (hown.chg tnR_flat hcv (fun _ _=>id)) _ _ HS (by simp;omega) (by decide) (Nat.le_trans hB hcv.size) (fun _ _ _ _ h=>h)
   refine⟨v',w', ?_,v',rfl,h2, ?_,(hcv.mono (fun _ _ e=>e.elim)).trans (Chg.grown h3 (F:=fun k=>k=s∨uv.ownBlock=some k) (fun k e=> .inr e)) (fun _ _=>id), ?_⟩
   ·have hs:(⟨tm,[]⟩:Act).eval (.tmp 42)=uv:=eval_tmp e0
    have he:(⟨tm,[]⟩:Act).eval (.tmp 55)=.slice (some ⟨v.heap.size,0,none⟩) 1 1:=eval_tmp e1
    exact run_append_op (.tmp 42) (.tmp 55) 50 rfl hs he hrun'
   ·rcases h4 with h4|h4
    ·exact .inl h4
    ·exact .inr ⟨_,h4,hcv.size⟩
   ·rw[if_pos rfl]
    exact(hbox.chg hcv id).chg (Chg.grown h3 (F:=fun k=>uv.ownBlock=some k) (fun k e=>e)) hus
  |2,hi=>
   obtain rfl:=Option.some.inj hi
   obtain⟨uv',rfl,h2,h4,h5,h6⟩:=hsp
   rw[if_pos rfl] at h6
   have e0:a.tmps[58]?=some (.pointer (some ⟨s,2,none⟩)):=hb 20 _ 58 rfl rfl (by kernel_rfl)
   have e1:a.tmps[56]?=some uv':=hsv (56,uv') (by simp)
   obtain⟨tm,ds'⟩:=a
   obtain⟨uA,uc,rfl,_,_,_⟩:=h2.form
   refine co_opS hZ hX TT.toTable (by decide) (R:=fun u=>Same u (w.setCell ⟨s,2,none⟩ (.slice uA (ts++[(⟨r.task.id,r.wait,n⟩:Tn)]).length uc))) rfl rfl (by kernel_rfl) (fun u hu=> ?_) (fun u hh=>co_same hh (hc _ _ ⟨_,by simp[dstL],h2.chg tnR_flat (Chg.set (F:=fun k=>k=s) w _ rfl) (fun k hk e=> ?_),h4,h5.trans (Chg.set w _ (.inl rfl)) (fun _ _=>id), ?_⟩))
   ·have hcell:∀a,u.cell? a=w.cell? a:=fun a=>by unfold World.cell?;rw[hu.heap]
    have hfr:∀a,u.frozen? a=w.frozen? a:=fun a=>by unfold World.frozen?;rw[hu.heap]
    have c2:=h6.c 2 _ rfl
    have f2:=h6.f 2
    rw[←hcell] at c2
    rw[←hfr] at f2
    refine⟨u.setCell ⟨s,2,none⟩ (.slice uA (ts++[(⟨r.task.id,r.wait,n⟩:Tn)]).length uc), ?_,hu.set _ _⟩
    simp[go_sem,execOp,e0,e1,c2,f2]
   ·subst e
    rcases h4 with h4|⟨k',h4,hk'⟩
    ·rw[hk] at h4
     exact hus h4.symm
    ·rw[hk] at h4
     have:=Option.some.inj h4
     omega
   ·rw[if_neg (by omega)]
    exact h6.turns _
  |m+3,hi=>exact absurd hi (by simp)
 ·intro sv w a hsp hds hsz hsv hb hr
  obtain⟨uv',rfl,h2,h4,h5,h6⟩:=hsp
  simp only[List.length_cons,List.length_nil] at h6
  rw[if_neg (by omega)] at h6
  have hgot:∀p∈[(38,.pointer (some ⟨s,0,none⟩)),(39,.pointer (some ⟨s,0,none⟩)),(40,.pointer (some ⟨s,0,none⟩)),(41,.pointer (some ⟨s,2,none⟩)),(42,uv),(43,.pointer (some ⟨b,0,none⟩)),(44,.pointer (some ⟨b,0,none⟩)),(45,.pointer (some ⟨b,0,none⟩)),(46,.pointer (some ⟨b,0,none⟩)),(47,.int .i64 r.task.id),(48,.pointer (some ⟨b,0,none⟩)),(49,.pointer (some ⟨b,0,none⟩)),(50,.pointer (some ⟨b,7,none⟩)),(51,.agg #[.int .i64 r.wait.kind,.int .i64 r.wait.obj,.int .i64 r.wait.til]),(52,lv),(53,.int .i64 (n:Int)),(54,.agg #[.int .i64 r.task.id,.int .i64 r.wait.kind,.int .i64 r.wait.obj,.int .i64 r.wait.til,.int .i64 (n:Int)]),(55,.slice (some ⟨v.heap.size,0,none⟩) 1 1),(56,uv'),(57,.pointer (some ⟨s,0,none⟩)),(58,.pointer (some ⟨s,2,none⟩))],a.tmps[p.1]?=some p.2:=by
   intro p hp
   simp only[List.mem_cons,List.not_mem_nil,or_false] at hp
   rcases hp with rfl|rfl|rfl|rfl|rfl|rfl|rfl|rfl|rfl|rfl|rfl|rfl|rfl|rfl|rfl|rfl|rfl|rfl|rfl|rfl|rfl
   ·exact hb 0 _ 38 rfl rfl
   ·exact hb 1 _ 39 rfl rfl
   ·exact hb 2 _ 40 rfl rfl
   ·exact hb 3 _ 41 rfl rfl
   ·exact hb 4 _ 42 rfl rfl
   ·exact hb 5 _ 43 rfl rfl
   ·exact hb 6 _ 44 rfl rfl
   ·exact hb 7 _ 45 rfl rfl
   ·exact hb 8 _ 46 rfl rfl
   ·exact hb 9 _ 47 rfl rfl
   ·exact hb 10 _ 48 rfl rfl
   ·exact hb 11 _ 49 rfl rfl
   ·exact hb 12 _ 50 rfl rfl
   ·exact hb 13 _ 51 rfl rfl
   ·exact hb 14 _ 52 rfl rfl
   ·exact hb 15 _ 53 rfl rfl
   ·exact hb 16 _ 54 rfl rfl
   ·exact hsv (55,_) (by simp)
   ·exact hsv (56,_) (by simp)
   ·exact hb 19 _ 57 rfl rfl
   ·exact hb 20 _ 58 rfl rfl
  have ha:=hold_eq (L:=[(38,.pointer (some ⟨s,0,none⟩)),(39,.pointer (some ⟨s,0,none⟩)),(40,.pointer (some ⟨s,0,none⟩)),(41,.pointer (some ⟨s,2,none⟩)),(42,uv),(43,.pointer (some ⟨b,0,none⟩)),(44,.pointer (some ⟨b,0,none⟩)),(45,.pointer (some ⟨b,0,none⟩)),(46,.pointer (some ⟨b,0,none⟩)),(47,.int .i64 r.task.id),(48,.pointer (some ⟨b,0,none⟩)),(49,.pointer (some ⟨b,0,none⟩)),(50,.pointer (some ⟨b,7,none⟩)),(51,.agg #[.int .i64 r.wait.kind,.int .i64 r.wait.obj,.int .i64 r.wait.til]),(52,lv),(53,.int .i64 (n:Int)),(54,.agg #[.int .i64 r.task.id,.int .i64 r.wait.kind,.int .i64 r.wait.obj,.int .i64 r.wait.til,.int .i64 (n:Int)]),(55,.slice (some ⟨v.heap.size,0,none⟩) 1 1),(56,uv'),(57,.pointer (some ⟨s,0,none⟩)),(58,.pointer (some ⟨s,2,none⟩))]) (S:=List.range' 38 21) (T:=#[.pointer (some ⟨s,0,none⟩),lv,.pointer (some ⟨b,0,none⟩),Jc,Yf,Y5,Qd,Yr,Qj,Yi,Yw,Ju,Jn,Yo,Jm,Jz,J5,Jp,Jb,Jr,Y9,Yc,Js,Ys,Ji,Yh,Y8,J1,Qe,Ja,Ye,Jd,Yu,Y4,Jt,J3,Yb,Jg,Y3,Jw,Yg,Qa,Y0,Yv,Yd,Jy,Ya,Y2,Jq,J0,Jh,Yp,Yn,J6,Y1,Jv,Yl,Jj,Yt,Qm,Qk,Qn,Qq,Qp,Qo,Ql,Qr,Qg,Qh,Qf,Qi,Y7,Yy,Yj,Jx,Y6,Ym,J4,Yz,Qc,Yx,Yq,Qb,Jo,J7,Jk,Jl,J8,J9,Yk,Jf,J2,Je]) ⟨hds,hsz,hgot,hr⟩ (by show(List.range' 38 21).Nodup;decide) (by show∀s∈List.range' 38 21,s∈List.range' 38 21;exact fun _ h=>h) (by simp)
  rw[ha]
  simp only[fin,List.foldl]
  walk_nrm
  refine co_region_end hZ hX ?_
  exact hnext w uv' _ _ _ _ _ _ _ _ _ _ _ _ _ _ _ _ _ _ _ _ _ _ _ _ _ _ _ _ _ _ _ _ _ _ _ _ _ _ _ _ _ _ _ _ _ _ _ _ _ _ _ _ _ _ _ _ _ _ _ _ _ _ _ _ _ _ _ _ _ _ _ _ _ _ _ _ _ _ _ _ _ _ _ _ _ _ _ _ _ _ h6 h2 h4 h5
end Co
end Go.Proofs.Ytlngbdggehghgaa

namespace Go.Proofs.Ytlngbdggehghgaa
set_option linter.unusedSimpArgs false
set_option linter.unusedVariables false
namespace Co
open Go.Conc Go.RowKit
theorem Gh.Ok.any {g:Gh} {h:Nat} (hg:g.Ok h) (hoff:g.off=0) (hear:g.ear=true) (j:Nat):g.Ok j:=
 {hg with off:=.inl hoff,ear:=fun e=>by rw[hear] at e;cases e}
theorem Same.putAt {u v:World} (h:Same u v) (g:Nat):∀(off:Nat) (us:List Value),Same (putAt u g off us) (putAt v g off us):=fun off us=>by
 induction us generalizing u v off with
 |nil=>exact h
 |cons x us ih=>exact ih (h.set _ _) _
noncomputable def reg8:Code:=fstC (sndC (sndC body32))
noncomputable def reg9:Code:=fstC (sndC (sndC (sndC body32)))
noncomputable def rest10:Code:=sndC (sndC (sndC (sndC body32)))
noncomputable def rest8:Code:=sndC (sndC body32)
def zdone:Value:=.agg #[.int .i64 0,.int .i64 0,.int .i64 0,.int .i64 0,.int .i64 0,.int .i64 0,.int .i64 0,.int .i64 0,.int .i64 0,.int .i64 0,.slice none 0 0]
set_option maxRecDepth 100000 in
set_option maxHeartbeats 4000000 in
theorem give_hand {Z:Goal} {g:Gh} {x:Wk} {v:World} {o:Option Nat} {r:Ru} {t':Tk} {q':Wa} {Post:Value→World→World→Prop} {F:Nat→Prop} {lv:Value} {ds:List Deferred} {k:List Item} {cs:List Frame}
 (hZ:Z.Ok Try.prog) (hg:g.Ok 0) (hoff:g.off=0) (hear:g.ear=true) (hn:0<g.n) (hm:g.m0=none) (hx:x∈g.rs) (hxi:x.i≠0) (hxn:x.i<g.n) (hseat:g.seat κL x.i=some (κL.seat g.s x))
 (hrun:Cells v x.r r.cells) (c0:v.cell? ⟨g.s,0,none⟩=some (WV o)) (hS:∀W,Chg (fun _=>False) v W→StepC o r.task t' q' Post W) (hP:∀l W w',Post l W w'→Chg F W w') (hPl:∀l W w',Post l W w'→∃A n c,l=.slice A n c) (hF:∀k,F k→k<v.heap.size) (hFs:¬F g.s)
 (hnext:∀(W w' v':World) (l:Value) (d d8:Nat) (Jc Yf Y5 Qd Yr Yi Yw Ju Jn Yo Jm Jz J5 Jp Jb Jr Y9 Yc Js Ys Ji Yh Y8 J1 Qe Ja Ye Jd Yu Y4 Jt J3 Yb Jg Y3 Jw Yg Qa Y0 Yv Yd Jy Ya Y2 Jq J0 Jh Yp Yn J6 Y1 Jv Yl Jj Yt Qm Qk Qn Qq Qp Qo Ql Qr Qg Qh Qf Qi Y7 Yy Yj Jx Y6 Ym J4 Yz Qc Yx Yq Qb Jo J7 Jk Jl J8 J9 Yk Jf J2 Je:Value),Chg (fun _=>False) v W→Post l W w'→v.heap.size≤d→d<W.heap.size→w'.heap.size≤d8→Chg (fun k=>k=d) w' v'→Cells v' d8 (doneL t' q' l)→
  Co Try.prog Z 0 (g.fx Try.prog κL 0) (G ((Go.Conc.base 32).at ⟨#[.pointer (some ⟨g.s,0,none⟩),lv,.pointer (some ⟨x.r,0,none⟩),Jc,Yf,Y5,Qd,Yr,.pointer (some ⟨d8,0,none⟩),Yi,Yw,Ju,Jn,Yo,Jm,Jz,J5,Jp,Jb,Jr,Y9,Yc,Js,Ys,Ji,Yh,Y8,J1,Qe,Ja,Ye,Jd,Yu,Y4,Jt,J3,Yb,Jg,Y3,Jw,Yg,Qa,Y0,Yv,Yd,Jy,Ya,Y2,Jq,J0,Jh,Yp,Yn,J6,Y1,Jv,Yl,Jj,Yt,Qm,Qk,Qn,Qq,Qp,Qo,Ql,Qr,Qg,Qh,Qf,Qi,Y7,Yy,Yj,Jx,Y6,Ym,J4,Yz,Qc,Yx,Yq,Qb,Jo,J7,Jk,Jl,J8,J9,Yk,Jf,J2,Je],ds⟩ (.code rest10::k)) cs) v')
 :∀(Jc Yf Y5 Qd Yr Qj Yi Yw Ju Jn Yo Jm Jz J5 Jp Jb Jr Y9 Yc Js Ys Ji Yh Y8 J1 Qe Ja Ye Jd Yu Y4 Jt J3 Yb Jg Y3 Jw Yg Qa Y0 Yv Yd Jy Ya Y2 Jq J0 Jh Yp Yn J6 Y1 Jv Yl Jj Yt Qm Qk Qn Qq Qp Qo Ql Qr Qg Qh Qf Qi Y7 Yy Yj Jx Y6 Ym J4 Yz Qc Yx Yq Qb Jo J7 Jk Jl J8 J9 Yk Jf J2 Je:Value),Co Try.prog Z 0 (g.fx Try.prog κL 0) (G ((Go.Conc.base 32).at ⟨#[.pointer (some ⟨g.s,0,none⟩),lv,.pointer (some ⟨x.r,0,none⟩),Jc,Yf,Y5,Qd,Yr,Qj,Yi,Yw,Ju,Jn,Yo,Jm,Jz,J5,Jp,Jb,Jr,Y9,Yc,Js,Ys,Ji,Yh,Y8,J1,Qe,Ja,Ye,Jd,Yu,Y4,Jt,J3,Yb,Jg,Y3,Jw,Yg,Qa,Y0,Yv,Yd,Jy,Ya,Y2,Jq,J0,Jh,Yp,Yn,J6,Y1,Jv,Yl,Jj,Yt,Qm,Qk,Qn,Qq,Qp,Qo,Ql,Qr,Qg,Qh,Qf,Qi,Y7,Yy,Yj,Jx,Y6,Ym,J4,Yz,Qc,Yx,Yq,Qb,Jo,J7,Jk,Jl,J8,J9,Yk,Jf,J2,Je],ds⟩ (.code rest8::k)) cs) v:=by
 intro Jc Yf Y5 Qd Yr Qj Yi Yw Ju Jn Yo Jm Jz J5 Jp Jb Jr Y9 Yc Js Ys Ji Yh Y8 J1 Qe Ja Ye Jd Yu Y4 Jt J3 Yb Jg Y3 Jw Yg Qa Y0 Yv Yd Jy Ya Y2 Jq J0 Jh Yp Yn J6 Y1 Jv Yl Jj Yt Qm Qk Qn Qq Qp Qo Ql Qr Qg Qh Qf Qi Y7 Yy Yj Jx Y6 Ym J4 Yz Qc Yx Yq Qb Jo J7 Jk Jl J8 J9 Yk Jf J2 Je
 have hX:=hg.fx κL_ok
 have e8:rest8=.seq reg8 (.seq reg9 rest10):=by simp only[rest8,reg8,reg9,rest10,body32,Try.f32,Option.getD_some,fstC,sndC]
 rw[e8]
 refine co_seq hZ hX ?_
 have e9:reg9=.region 9 (opsC reg9) false:=by simp only[reg9,body32,Try.f32,Option.getD_some,fstC,sndC,opsC]
 have hK:∀w,g.K w→w.cell? ⟨x.r,11,none⟩=some (.chan (some x.ct)):=fun w hw=>(hw x hx).1
 let A₂:Goroutine:=G ((Go.Conc.base 32).at ⟨#[.pointer (some ⟨g.s,0,none⟩),lv,.pointer (some ⟨x.r,0,none⟩),Jc,Yf,Y5,Qd,Yr,Qj,Yi,Yw,Ju,Jn,Yo,Jm,Jz,J5,Jp,Jb,Jr,Y9,Yc,Js,Ys,Ji,Yh,Y8,J1,Qe,Ja,Ye,Jd,Yu,Y4,Jt,J3,Yb,Jg,Y3,Jw,Yg,Qa,Y0,Yv,Yd,Jy,Ya,Y2,Jq,J0,Jh,Yp,Yn,J6,Y1,Jv,Yl,Jj,Yt,(.pointer (some ⟨x.r,0,none⟩)),(.pointer (some ⟨x.r,0,none⟩)),(.pointer (some ⟨x.r,11,none⟩)),(.chan (some x.ct)),(.pointer (some ⟨x.r,0,none⟩)),(.pointer (some ⟨x.r,0,none⟩)),(.pointer (some ⟨x.r,0,none⟩)),(.agg #[.int .i64 r.task.id,.int .i64 r.task.kind,.int .i64 r.task.pc,.int .i64 r.task.a,.int .i64 r.task.b,.int .i64 r.task.c,.int .i64 r.task.d]),(.pointer (some ⟨x.r,0,none⟩)),(.pointer (some ⟨x.r,0,none⟩)),(.pointer (some ⟨x.r,12,none⟩)),(.chan (some x.cb)),Y7,Yy,Yj,Jx,Y6,Ym,J4,Yz,Qc,Yx,Yq,Qb,Jo,J7,Jk,Jl,J8,J9,Yk,Jf,J2,Je],ds⟩ (.inRegion (opsC reg9) [4,5,6]:: .code rest10::k)) cs
 let sh:Seat:=Seat.one x.cb zdone false (fun g₂=>g₂=A₂)
 have hgm:(g.main (some sh)).Ok 0:={hg with m0:=fun s hs=>⟨x,hx,zdone,false,_,(Option.some.inj hs).symm⟩}
 have hback:(g.main (some sh)).main none=g:=by cases g;simp only[Gh.main] at hm⊢;rw[←hm]
 simp only[reg8,body32,Try.f32,Option.getD_some,sndC,fstC]
 refine co_chain hZ hX (by rfl) [(59,.pointer (some ⟨x.r,0,none⟩)),(60,.pointer (some ⟨x.r,0,none⟩)),(61,.pointer (some ⟨x.r,11,none⟩)),(62,.chan (some x.ct)),(63,.pointer (some ⟨x.r,0,none⟩)),(64,.pointer (some ⟨x.r,0,none⟩)),(65,.pointer (some ⟨x.r,0,none⟩)),(66,.agg #[.int .i64 r.task.id,.int .i64 r.task.kind,.int .i64 r.task.pc,.int .i64 r.task.a,.int .i64 r.task.b,.int .i64 r.task.c,.int .i64 r.task.d])] rfl (by kernel_rfl) (by show(List.range' 59 8).Nodup;decide) (by simp) (reach_of (n:=8) (by kernel_rfl)) ?_ ?_
 ·intro i p hp a hds hsz hb hrest rest hc
  match i,hp with
  |0,hp=>
   obtain rfl:=Option.some.inj hp
   have e0:a.tmps[2]?=some (.pointer (some ⟨x.r,0,none⟩)):=hrest 2 (by simp)
   refine co_value hZ hX _ rfl rfl (by decide) (fun _=> ?_) (fun _=> ?_) hc
   ·simp[go_sem,execOp,e0]
   ·simp[go_sem,execOp,e0]
  |1,hp=>
   obtain rfl:=Option.some.inj hp
   have e0:a.tmps[59]?=some (.pointer (some ⟨x.r,0,none⟩)):=hb 0 _ rfl (by kernel_rfl)
   refine co_value hZ hX _ rfl rfl (by decide) (fun _=> ?_) (fun _=> ?_) hc
   ·simp[go_sem,execOp,e0]
   ·simp[go_sem,execOp,e0]
  |2,hp=>
   obtain rfl:=Option.some.inj hp
   have e0:a.tmps[60]?=some (.pointer (some ⟨x.r,0,none⟩)):=hb 1 _ rfl (by kernel_rfl)
   refine co_value hZ hX _ rfl rfl (by decide) (fun _=> ?_) (fun _=> ?_) hc
   ·simp[go_sem,execOp,e0]
   ·simp[go_sem,execOp,e0]
  |3,hp=>
   obtain rfl:=Option.some.inj hp
   have e0:a.tmps[61]?=some (.pointer (some ⟨x.r,11,none⟩)):=hb 2 _ rfl (by kernel_rfl)
   refine co_read hZ hX _ ⟨x.r,11,none⟩ rfl rfl (by decide) (fun w hw=> ?_) (fun w hw=> ?_) ⟨x,hx,.inl rfl⟩ hrun.lt hc
   ·have:=hK w hw;simp[go_sem,execOp,e0,this]
   ·have:=hK w hw;simp[go_sem,execOp,e0,this]
  |4,hp=>
   obtain rfl:=Option.some.inj hp
   have e0:a.tmps[2]?=some (.pointer (some ⟨x.r,0,none⟩)):=hrest 2 (by simp)
   refine co_value hZ hX _ rfl rfl (by decide) (fun _=> ?_) (fun _=> ?_) hc
   ·simp[go_sem,execOp,e0]
   ·simp[go_sem,execOp,e0]
  |5,hp=>
   obtain rfl:=Option.some.inj hp
   have e0:a.tmps[63]?=some (.pointer (some ⟨x.r,0,none⟩)):=hb 4 _ rfl (by kernel_rfl)
   refine co_value hZ hX _ rfl rfl (by decide) (fun _=> ?_) (fun _=> ?_) hc
   ·simp[go_sem,execOp,e0]
   ·simp[go_sem,execOp,e0]
  |6,hp=>
   obtain rfl:=Option.some.inj hp
   have e0:a.tmps[64]?=some (.pointer (some ⟨x.r,0,none⟩)):=hb 5 _ rfl (by kernel_rfl)
   refine co_value hZ hX _ rfl rfl (by decide) (fun _=> ?_) (fun _=> ?_) hc
   ·simp[go_sem,execOp,e0]
   ·simp[go_sem,execOp,e0]
  |7,hp=>
   obtain rfl:=Option.some.inj hp
   have e0:a.tmps[65]?=some (.pointer (some ⟨x.r,0,none⟩)):=hb 6 _ rfl (by kernel_rfl)
   have r0:=hrun.c 0 _ rfl
   have r1:=hrun.c 1 _ rfl
   have r2:=hrun.c 2 _ rfl
   have r3:=hrun.c 3 _ rfl
   have r4:=hrun.c 4 _ rfl
   have r5:=hrun.c 5 _ rfl
   have r6:=hrun.c 6 _ rfl
   obtain⟨tm,ds'⟩:=a
   refine co_op hZ hX TT.toTable (by decide) (R:=fun y u=>y=.agg #[.int .i64 r.task.id,.int .i64 r.task.kind,.int .i64 r.task.pc,.int .i64 r.task.a,.int .i64 r.task.b,.int .i64 r.task.c,.int .i64 r.task.d]∧Same u v) rfl rfl (by kernel_rfl) (fun u hu=> ?_) (fun y u hh=>by rw[hh.1];exact co_same hh.2 hc)
   have hcell:∀a,u.cell? a=v.cell? a:=fun a=>by unfold World.cell?;rw[hu.heap]
   refine⟨_,u, ?_,rfl,hu⟩
   simp only[←hcell] at r0 r1 r2 r3 r4 r5 r6
   simp[go_sem,execOp,e0,r0,r1,r2,r3,r4,r5,r6]
  |i+8,hp=>exact absurd hp (by simp)
 ·simp only[fin,List.foldl]
  walk_nrm
  refine co_main hg hoff hear hgm ?_
  have hX':=hgm.fx κL_ok
  have hj0:(g.main (some sh)).seat κL 0=some sh:=rfl
  have hseat':(g.main (some sh)).seat κL x.i=some (Seat.one x.ct ztask true (homeL g.s x)):=by
   rw[show(g.main (some sh)).seat κL x.i=g.seat κL x.i by simp only[Gh.seat,if_neg hxi];rfl]
   exact hseat
  refine co_give (g:=g.main (some sh)) hZ hgm hoff hear (hgm.any hoff hear x.i) hxi hxn (by simp[Gh.main]) (c:=x.ct) (z:=ztask) (val:=.agg #[.int .i64 r.task.id,.int .i64 r.task.kind,.int .i64 r.task.pc,.int .i64 r.task.a,.int .i64 r.task.b,.int .i64 r.task.c,.int .i64 r.task.d]) (z':=.tuple #[]) hseat' hj0 rfl (a₂:= ?_) (fun w hw=> ?_) ?_ ?_
  ·exact G ((Go.Conc.base 32).at ⟨#[.pointer (some ⟨g.s,0,none⟩),lv,.pointer (some ⟨x.r,0,none⟩),Jc,Yf,Y5,Qd,Yr,Qj,Yi,Yw,Ju,Jn,Yo,Jm,Jz,J5,Jp,Jb,Jr,Y9,Yc,Js,Ys,Ji,Yh,Y8,J1,Qe,Ja,Ye,Jd,Yu,Y4,Jt,J3,Yb,Jg,Y3,Jw,Yg,Qa,Y0,Yv,Yd,Jy,Ya,Y2,Jq,J0,Jh,Yp,Yn,J6,Y1,Jv,Yl,Jj,Yt,(.pointer (some ⟨x.r,0,none⟩)),(.pointer (some ⟨x.r,0,none⟩)),(.pointer (some ⟨x.r,11,none⟩)),(.chan (some x.ct)),(.pointer (some ⟨x.r,0,none⟩)),(.pointer (some ⟨x.r,0,none⟩)),(.pointer (some ⟨x.r,0,none⟩)),(.agg #[.int .i64 r.task.id,.int .i64 r.task.kind,.int .i64 r.task.pc,.int .i64 r.task.a,.int .i64 r.task.b,.int .i64 r.task.c,.int .i64 r.task.d]),Qg,Qh,Qf,Qi,Y7,Yy,Yj,Jx,Y6,Ym,J4,Yz,Qc,Yx,Yq,Qb,Jo,J7,Jk,Jl,J8,J9,Yk,Jf,J2,Je],ds⟩ (.inRegion (opsC reg8) [8]:: .code (.seq reg9 rest10)::k)) cs
  ·simp only[reg8,body32,Try.f32,Option.getD_some,sndC,fstC,opsC]
   refine(stepG_comm rfl rfl (by decide) (cases:=#[scase x.ct (.agg #[.int .i64 r.task.id,.int .i64 r.task.kind,.int .i64 r.task.pc,.int .i64 r.task.a,.int .i64 r.task.b,.int .i64 r.task.c,.int .i64 r.task.d]) (.tuple #[])]) (shape:=.send) (blocking:=true) (w':=w) ?_).trans ?_
   ·simp[go_sem,execOp,Act.eval,scase]
   ·rw[listed_none]
    simp[go_sem,execOp,Act.eval]
  ·intro B hB
   rw[served_fr,Frame.finish_at]
   refine⟨12,sits_of fun w₀=> ?_⟩
   have hJ:Calmly Try.prog true (fun n g'=> ∀w,Goes Try.prog true (RK g.K) (DS g.Still B) (fun g' _=> ∃g₂,AtIn Try.prog true g.K g.Still B sh g' g₂) n g' w):=goes_calmly
   have hK2:∀w,g.K w→w.cell? ⟨x.r,12,none⟩=some (.chan (some x.cb)):=fun w hw=>(hw x hx).2
   revert w₀
   change∀w₀,Goes Try.prog true (RK g.K) (DS g.Still B) (fun g' _=> ∃g₂,AtIn Try.prog true g.K g.Still B sh g' g₂) 11 (G ((Go.Conc.base 32).at ⟨#[.pointer (some ⟨g.s,0,none⟩),lv,.pointer (some ⟨x.r,0,none⟩),Jc,Yf,Y5,Qd,Yr,Qj,Yi,Yw,Ju,Jn,Yo,Jm,Jz,J5,Jp,Jb,Jr,Y9,Yc,Js,Ys,Ji,Yh,Y8,J1,Qe,Ja,Ye,Jd,Yu,Y4,Jt,J3,Yb,Jg,Y3,Jw,Yg,Qa,Y0,Yv,Yd,Jy,Ya,Y2,Jq,J0,Jh,Yp,Yn,J6,Y1,Jv,Yl,Jj,Yt,(.pointer (some ⟨x.r,0,none⟩)),(.pointer (some ⟨x.r,0,none⟩)),(.pointer (some ⟨x.r,11,none⟩)),(.chan (some x.ct)),(.pointer (some ⟨x.r,0,none⟩)),(.pointer (some ⟨x.r,0,none⟩)),(.pointer (some ⟨x.r,0,none⟩)),(.agg #[.int .i64 r.task.id,.int .i64 r.task.kind,.int .i64 r.task.pc,.int .i64 r.task.a,.int .i64 r.task.b,.int .i64 r.task.c,.int .i64 r.task.d]),Qg,Qh,Qf,Qi,Y7,Yy,Yj,Jx,Y6,Ym,J4,Yz,Qc,Yx,Yq,Qb,Jo,J7,Jk,Jl,J8,J9,Yk,Jf,J2,Je],ds⟩ (.inRegion (opsC reg8) []:: .code (.seq reg9 rest10)::k)) cs) w₀
   refine c_region_end (n:=10) hJ ?_
   refine c_seq (J:=fun n g'=> ∀w,Goes Try.prog true (RK g.K) (DS g.Still B) (fun g' _=> ∃g₂,AtIn Try.prog true g.K g.Still B sh g' g₂) n g' w) hJ ?_
   rw[e9]
   refine c_region hJ [0,1,2,3,4,5,6] (by simp only[reg9,body32,Try.f32,Option.getD_some,fstC,sndC,opsC];rfl) ?_
   have hat:AtIn Try.prog true g.K g.Still B sh A₂ A₂:=by
    have hh:sh.home A₂:=rfl
    revert hh
    simp only[A₂,reg9,body32,Try.f32,Option.getD_some,fstC,sndC,opsC]
    intro hh
    exact atIn_of (s:=sh) rfl rfl (by decide) (fun w=>by simp[go_sem,execOp,rcase,Act.eval,Seat.one,sh,zdone]) (fun w=>by simp[go_sem,execOp,Act.eval]) hh
   simp only[A₂] at hat
   clear_value sh
   clear A₂
   simp only[reg9,body32,Try.f32,Option.getD_some,fstC,sndC,opsC] at hat⊢
   refine c_value hJ (.pointer (some ⟨x.r,0,none⟩)) rfl rfl (by decide) (fun _=>by simp[go_sem,execOp,Act.eval]) (fun _=>by simp[go_sem,execOp,Act.eval]) ?_
   walk_nrm
   refine c_value hJ (.pointer (some ⟨x.r,0,none⟩)) rfl rfl (by decide) (fun _=>by simp[go_sem,execOp,Act.eval]) (fun _=>by simp[go_sem,execOp,Act.eval]) ?_
   walk_nrm
   refine c_value hJ (.pointer (some ⟨x.r,12,none⟩)) rfl rfl (by decide) (fun _=>by simp[go_sem,execOp,Act.eval]) (fun _=>by simp[go_sem,execOp,Act.eval]) ?_
   walk_nrm
   refine goes_read (.chan (some x.cb)) ⟨x.r,12,none⟩ rfl rfl (by decide) (fun w hw=>by have:=hK2 w hw;simp[go_sem,execOp,Act.eval,this]) (fun w hw=>by have:=hK2 w hw;simp[go_sem,execOp,Act.eval,this]) ⟨x,hx,.inr rfl⟩ (hB x hx) ?_
   walk_nrm
   exact fun w=>Goes.stop (fun _ _=>⟨_,hat⟩)
  ·refine worker_turn (g:=g.main (some sh)) (x:=x) (o:=o) (t:=r.task) (t':=t') (q':=q') (Post:=Post) (F:=F) (z:=zdone) hZ (hgm.any hoff hear x.i) hgm hoff hear hn rfl hx hxi hseat' hrun.lt c0 hS hP hF hFs ?_
   intro W w' v' l d hW hPost hd1 hd2 hcg g₂ hg₂
   have hg₂':g₂=A₂:=hg₂
   subst hg₂'
   refine co_main hgm hoff hear (m:=none) (by rw[hback];exact hg) ?_
   rw[hback]
   simp only[A₂]
   rw[served_fr,Frame.finish_at]
   simp only[recvd,reg9,body32,Try.f32,Option.getD_some,sndC,fstC,opsC,Bool.false_eq_true,if_false]
   walk_nrm
   refine co_op hZ hX TT.toTable (by decide) (R:=fun y u=>y=.pointer (some ⟨v'.heap.size,0,none⟩)∧Same u (v'.alloc (.cells #[.int .i64 0,.int .i64 0,.int .i64 0,.int .i64 0,.int .i64 0,.int .i64 0,.int .i64 0,.int .i64 0,.int .i64 0,.int .i64 0,.slice none 0 0] 115))) rfl rfl (by kernel_rfl) (fun u hu=> ?_) (fun y u hh=> ?_)
   ·have hz:u.heap.size=v'.heap.size:=by rw[hu.heap]
    refine⟨_,u.alloc (.cells #[.int .i64 0,.int .i64 0,.int .i64 0,.int .i64 0,.int .i64 0,.int .i64 0,.int .i64 0,.int .i64 0,.int .i64 0,.int .i64 0,.slice none 0 0] 115), ?_,rfl,hu.alloc _⟩
    rw[←hz]
    simp[go_sem,execOp]
   ·obtain⟨rfl,hu⟩:=hh
    refine co_same hu ?_
    clear hu u
    have k8:=Cells.new v' [.int .i64 0,.int .i64 0,.int .i64 0,.int .i64 0,.int .i64 0,.int .i64 0,.int .i64 0,.int .i64 0,.int .i64 0,.int .i64 0,.slice none 0 0] 115
    have c8:Chg (fun k=>k=d) w' (v'.alloc (.cells #[.int .i64 0,.int .i64 0,.int .i64 0,.int .i64 0,.int .i64 0,.int .i64 0,.int .i64 0,.int .i64 0,.int .i64 0,.int .i64 0,.slice none 0 0] 115)):=hcg.trans (Chg.alloc (fun _=>False) v' _) (fun _ _ e=>e.elim)
    have hd8:=hcg.size
    generalize v'.alloc (.cells #[.int .i64 0,.int .i64 0,.int .i64 0,.int .i64 0,.int .i64 0,.int .i64 0,.int .i64 0,.int .i64 0,.int .i64 0,.int .i64 0,.slice none 0 0] 115)=v8 at k8 c8⊢
    generalize v'.heap.size=d8 at k8 hd8⊢
    walk_nrm
    have PP:=k8.put (doneL t' q' l) rfl
    refine co_opS hZ hX TT.toTable (by decide) (R:=fun u=>Same u (putAt v8 d8 0 (doneL t' q' l))) rfl rfl (by kernel_rfl) (fun u hu=> ?_) (fun u hu=>co_same hu ?_)
    ·obtain⟨lA,ln,lc,rfl⟩:=hPl _ _ _ hPost
     have hcell:∀a,u.cell? a=v8.cell? a:=fun a=>by unfold World.cell?;rw[hu.heap]
     have hfr:∀a,u.frozen? a=v8.frozen? a:=fun a=>by unfold World.frozen?;rw[hu.heap]
     have q0:=k8.c 0 _ rfl
     have q1:=k8.c 1 _ rfl
     have q2:=k8.c 2 _ rfl
     have q3:=k8.c 3 _ rfl
     have q4:=k8.c 4 _ rfl
     have q5:=k8.c 5 _ rfl
     have q6:=k8.c 6 _ rfl
     have q7:=k8.c 7 _ rfl
     have q8:=k8.c 8 _ rfl
     have q9:=k8.c 9 _ rfl
     have q10:=k8.c 10 _ rfl
     have qf:=k8.f
     simp only[←hcell] at q0 q1 q2 q3 q4 q5 q6 q7 q8 q9 q10
     simp only[←hfr] at qf
     refine⟨putAt u d8 0 (doneL t' q' (.slice lA ln lc)), ?_, ?_⟩
     ·simp[go_sem,execOp,Act.eval,doneV,q0,q1,q2,q3,q4,q5,q6,q7,q8,q9,q10,qf]
      rfl
     ·exact hu.putAt _ _ _
    ·walk_nrm
     refine co_region_end hZ hX ?_
     exact hnext W w' _ l d d8 _ _ _ _ _ _ _ _ _ _ _ _ _ _ _ _ _ _ _ _ _ _ _ _ _ _ _ _ _ _ _ _ _ _ _ _ _ _ _ _ _ _ _ _ _ _ _ _ _ _ _ _ _ _ _ _ _ _ _ _ _ _ _ _ _ _ _ _ _ _ _ _ _ _ _ _ _ _ _ _ _ _ _ _ _ _ _ _ _ hW hPost hd1 hd2 hd8 (c8.trans (Chg.grown PP.2 (F:=fun k=>k=d8) (fun k e=>(Option.some.inj e).symm)) (fun k hk e=>by omega)) PP.1
end Co
end Go.Proofs.Ytlngbdggehghgaa

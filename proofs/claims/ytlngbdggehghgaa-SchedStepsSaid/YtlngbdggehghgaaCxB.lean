/-
  Rules for the holder's regions that draw their order: whichever operation may come up comes up; operations that only yield values, in whatever order, and one that comes last. A piece of plain code, its end asked for in one go. Conditions: as each theorem says.
  The plain functions of this program, checked once. Conditions: as each theorem says.
-/
import Derived.Test.YtlngbdggehghgaaCwE
import Derived.Orders
namespace Go.Proofs.Ytlngbdggehghgaa
set_option linter.unusedSimpArgs false
set_option linter.unusedVariables false
namespace Co
open Go.Conc
section
variable {P:Program} {L:Nat→Bool} {M:String→Bool} {Z:Goal} {h:Nat} {X:Fx} {b:Frame} {ds:List Deferred} {k:List Item} {cs:List Frame} {v:World}
theorem co_code (hZ:Z.Ok P) (hX:X.Ok P h) (T:Texts P L M) (hk:b.kind≠.early) {c:Code} {tmps:Array Value} (hc:plainCode P L M c=true) (hcl:closedC false [] c=true)
 (hwp:∀K:Array Value→World→Prop,Hd (∀tm w,Co P Z h X (G (b.at ⟨tm,ds⟩ k) cs) w→K tm w)→∀u,Same u v→c.wp P (fun e a w=>e=.normal∧a.defers=[]∧K a.tmps w) ⟨tmps,[]⟩ u):
 Co P Z h X (G (b.at ⟨tmps,ds⟩ (.code c::k)) cs) v:=
 co_piece hZ hX T hk (by simp) hc hcl (R:=fun tm w=>Co P Z h X (G (b.at ⟨tm,ds⟩ k) cs) w) (fun u hu=>hwp _ ⟨fun _ _ h=>h⟩ u hu) fun _ _ h=>h
theorem co_codeR (hZ:Z.Ok P) (hX:X.Ok P h) (T:Texts P L M) (hk:b.kind=.normal) {c:Code} {tmps:Array Value} (hc:plainCode P L M c=true) (hcl:closedC true [] c=true)
 (hwp:∀K:Array Value→World→Prop,Hd (∀tm w,Co P Z h X (G (b.at ⟨tm,ds⟩ k) cs) w→K tm w)→∀u,Same u v→c.wp P (fun e a w=>e=.normal∧a.defers=[]∧K a.tmps w) ⟨tmps,[]⟩ u):
 Co P Z h X (G (b.at ⟨tmps,ds⟩ (.code c::k)) cs) v:=
 co_piece hZ hX T (by rw[hk];simp) (fun _=>hk) hc hcl (R:=fun tm w=>Co P Z h X (G (b.at ⟨tm,ds⟩ k) cs) w) (fun u hu=>hwp _ ⟨fun _ _ h=>h⟩ u hu) fun _ _ h=>h
def AnyTo (ops:Array Oper) (E:List Nat→Act→World→Prop) (St:Nat→(Act→World→Prop)→Act→World→Prop):Nat→Array Bool→Act→World→Prop
 |0,listed,a,v=>E (Region.ready .any ops listed) a v
 |f+1,listed,a,v=>(Region.ready .any ops listed=[]→E [] a v)∧∀i∈Region.ready .any ops listed,St i (AnyTo ops E St f (listed.setIfInBounds i true)) a v
def OpK (P:Program) (Z:Goal) (h:Nat) (X:Fx) (b:Frame) (k:List Item) (cs:List Frame) (ops:Array Oper) (i:Nat) (K:Act→World→Prop) (a:Act) (v:World):Prop:=
 ∀rest,(∀a' v',K a' v'→Co P Z h X (G (b.at a' (.inRegion ops rest::k)) cs) v')→Co P Z h X (G (b.at a (.inRegion ops (i::rest)::k)) cs) v
theorem any_sound {ops:Array Oper} {Q:Act→World→Prop} (hQ:∀a v,Q a v→Co P Z h X (G (b.at a (.inRegion ops []::k)) cs) v):∀(fuel t:Nat) (listed:Array Bool) (a:Act) (v:World),
 AnyTo ops (fun r a v=>r=[]∧Q a v) (OpK P Z h X b k cs ops) fuel listed a v→Co P Z h X (G (b.at a (.inRegion ops (Region.linearise.go .any ops fuel t listed [])::k)) cs) v:=by
 intro fuel
 induction fuel with
 |zero=>intro t listed a v hh;simp only[Region.linearise.go];exact hQ _ _ hh.2
 |succ fuel ih=>
  intro t listed a v hh
  obtain⟨h₀,h₁⟩:=hh
  simp only[Region.linearise.go]
  change Co P Z h X (G (b.at a (.inRegion ops (match(Region.ready .any ops listed)[t%(Region.ready .any ops listed).length]? with
   |some i=>Region.linearise.go .any ops fuel (t/(Region.ready .any ops listed).length) (listed.setIfInBounds i true) [i]
   |none=>[].reverse)::k)) cs) v
  cases hi:(Region.ready .any ops listed)[t%(Region.ready .any ops listed).length]? with
  |none=>
   have hnil:Region.ready .any ops listed=[]:=by
    cases hr:Region.ready .any ops listed with
    |nil=>rfl
    |cons x xs=>
     rw[hr] at hi
     have hlt:t%(x::xs).length<(x::xs).length:=Nat.mod_lt _ (by simp)
     simp at hi
     simp at hlt
     omega
   exact hQ _ _ (h₀ hnil).2
  |some i=>
   simp only[]
   rw[linearise_go_acc,List.reverse_singleton,List.singleton_append]
   exact h₁ i (List.mem_of_getElem? hi) _ fun a' v' hK=>ih _ _ a' v' hK
theorem co_any (hZ:Z.Ok P) (hX:X.Ok P h) (hm:P.follows .mixedOrders=true) {ops:Array Oper} {Q:Act→World→Prop} {id:Nat} {a:Act} (hQ:∀a v,Q a v→Co P Z h X (G (b.at a (.inRegion ops []::k)) cs) v)
 (hh:AnyTo ops (fun r a v=>r=[]∧Q a v) (OpK P Z h X b k cs ops) ops.size (Array.replicate ops.size false) a v):Co P Z h X (G (b.at a (.code (.region id ops true)::k)) cs) v:=
 co_region_draw hZ hX fun t=>by
  simp only[Region.schedule,hm,Bool.true_or,if_true]
  exact any_sound hQ ops.size t _ a v hh
def bindOf (ops:Array Oper) (i j:Nat):Bool:=match ops[i]? with
 |some o=>o.after.any fun e=>Region.binds .any e&&e.on==j
 |none=>false
def topoB (ops:Array Oper):Bool:=(List.range ops.size).all fun i=>match ops[i]? with
 |some o=>o.after.all fun e=> !Region.binds .any e||decide (e.on<i)
 |none=>true
structure Chain (ops:Array Oper) (l:List (Nat×Value)) (T:Array Value) (ds:List Deferred) (listed:Array Bool) (a:Act):Prop where
 size:listed.size=l.length+1
 defers:a.defers=ds
 tsz:a.tmps.size=T.size
 got:∀(j:Nat) (p:Nat×Value),l[j]?=some p→listed.getD j true=true→a.tmps[p.1]?=some p.2
 rest:∀s,(∀(j:Nat) (p:Nat×Value),l[j]?=some p→listed.getD j true=true→p.1≠s)→a.tmps[s]?=T[s]?
 shut:∀i,i<l.length→listed.getD i true=true→∀j,bindOf ops i j=true→listed.getD j false=true
 last:listed.getD l.length true=false
theorem getD_flip {listed:Array Bool} {j:Nat} (h:j<listed.size) (x y:Bool):listed.getD j x=listed.getD j y:=by
 simp[Array.getD,h]
theorem getD_set {listed:Array Bool} {i:Nat} (hi:i<listed.size) (j:Nat) (x:Bool):(listed.setIfInBounds i true).getD j x=if j=i then true else listed.getD j x:=by
 rw[Array.getD_eq_getD_getElem?,Array.getD_eq_getD_getElem?]
 by_cases e:j=i
 ·subst e
  rw[if_pos rfl,Array.getElem?_setIfInBounds_self_of_lt hi]
  rfl
 ·rw[if_neg e,Array.getElem?_setIfInBounds_ne (Ne.symm e)]
theorem ready_bind {ops:Array Oper} {listed:Array Bool} {i:Nat} (h:i∈Region.ready .any ops listed):listed.getD i true=false∧i<ops.size∧∀j,bindOf ops i j=true→listed.getD j false=true:=by
 obtain⟨h1,o,ho,h2⟩:=mem_ready.1 h
 refine⟨h1,(Array.getElem?_eq_some_iff.1 ho).1,fun j hj=> ?_⟩
 unfold bindOf at hj
 rw[ho] at hj
 simp only[Array.any_eq_true',Bool.and_eq_true,beq_iff_eq] at hj
 obtain⟨e,he,hb,rfl⟩:=hj
 exact h2 e he hb
theorem ready_some {ops:Array Oper} {listed:Array Bool} (ht:topoB ops=true) (hsz:listed.size=ops.size) {n:Nat} (hn:n<ops.size) (hl:listed.getD n true=false):Region.ready .any ops listed≠[]:=by
 have hex:∃m,m<ops.size∧listed.getD m true=false∧∀j,j<m→listed.getD j true=true:=by
  induction n using Nat.strongRecOn with
  |_ n ih=>
   by_cases hh:∀j,j<n→listed.getD j true=true
   ·exact⟨n,hn,hl,hh⟩
   ·obtain⟨j,hj⟩:=Classical.not_forall.1 hh
    obtain⟨hjn,hj2⟩:=Classical.not_imp.1 hj
    exact ih j hjn (by omega) (by simpa using hj2)
 obtain⟨m,hm,hml,hlt⟩:=hex
 intro he
 have:m∈Region.ready .any ops listed:=by
  rw[mem_ready]
  refine⟨hml,ops[m],Array.getElem?_eq_getElem hm,fun e hee hb=> ?_⟩
  unfold topoB at ht
  rw[List.all_eq_true] at ht
  have h1:=ht m (by simpa using hm)
  rw[Array.getElem?_eq_getElem hm] at h1
  simp only[Array.all_eq_true_iff_forall_mem] at h1
  have h2:=h1 e hee
  simp only[hb,Bool.not_true,Bool.false_or,decide_eq_true_eq] at h2
  rw[getD_flip (by omega) false true]
  exact hlt _ h2
 rw[he] at this
 cases this
theorem linearise_nil {ops:Array Oper} {listed:Array Bool} (hr:Region.ready .any ops listed=[]):∀f t,Region.linearise.go .any ops f t listed []=[]
 |0,_=>rfl
 |f+1,t=>by
  simp only[Region.linearise.go]
  change (match(Region.ready .any ops listed)[t%(Region.ready .any ops listed).length]? with
   |some i=>Region.linearise.go .any ops f (t/(Region.ready .any ops listed).length) (listed.setIfInBounds i true) [i]
   |none=>[].reverse)=[]
  rw[hr]
  rfl
def fin (l:List (Nat×Value)) (T:Array Value):Array Value:=l.foldl (fun T p=>T.setIfInBounds p.1 p.2) T
theorem fin_other:∀(l:List (Nat×Value)) (T:Array Value) (s:Nat),(∀p∈l,p.1≠s)→(fin l T)[s]?=T[s]?
 |[],_,_,_=>rfl
 |p::l,T,s,hh=>by
  show(fin l (T.setIfInBounds p.1 p.2))[s]?=_
  rw[fin_other l _ s fun q hq=>hh q (List.mem_cons_of_mem _ hq),Array.getElem?_setIfInBounds_ne (hh p List.mem_cons_self)]
theorem fin_at:∀(l:List (Nat×Value)) (T:Array Value) (p:Nat×Value),p∈l→(l.map (·.1)).Nodup→p.1<T.size→(fin l T)[p.1]?=some p.2
 |q::l,T,p,hp,hn,hlt=>by
  simp only[List.map_cons,List.nodup_cons] at hn
  show(fin l (T.setIfInBounds q.1 q.2))[p.1]?=_
  rcases List.mem_cons.1 hp with rfl|hp
  ·rw[fin_other l _ _ fun r hr e=>hn.1 (List.mem_map.2 ⟨r,hr,e⟩),Array.getElem?_setIfInBounds_self_of_lt hlt]
  ·exact fin_at l _ p hp hn.2 (by simpa using hlt)
theorem co_chain (hZ:Z.Ok P) (hX:X.Ok P h) (hm:P.follows .mixedOrders=true) {ops:Array Oper} {id:Nat} {T:Array Value} (l:List (Nat×Value)) (hsz:ops.size=l.length+1) (ht:topoB ops=true) (hnd:(l.map (·.1)).Nodup) (hlt:∀p∈l,p.1<T.size)
 (hs:∀p:Nat→Bool,(∀i,i<l.length→p i=true→∀j,bindOf ops i j=true→p j=true)→(∀j,bindOf ops l.length j=true→p j=true)→∀j,j<l.length→p j=true)
 (hop:∀(i:Nat) (p:Nat×Value),l[i]?=some p→∀a:Act,a.defers=ds→a.tmps.size=T.size→(∀(j:Nat) (q:Nat×Value),l[j]?=some q→bindOf ops i j=true→a.tmps[q.1]?=some q.2)→(∀s,(∀q∈l,q.1≠s)→a.tmps[s]?=T[s]?)→
  ∀rest,Co P Z h X (G (b.at (a.put (some p.1) p.2) (.inRegion ops rest::k)) cs) v→Co P Z h X (G (b.at a (.inRegion ops (i::rest)::k)) cs) v)
 (hend:Co P Z h X (G (b.at ⟨fin l T,ds⟩ (.inRegion ops [l.length]::k)) cs) v):Co P Z h X (G (b.at ⟨T,ds⟩ (.code (.region id ops true)::k)) cs) v:=by
 have key:∀(fuel t:Nat) (listed:Array Bool) (a:Act),Chain ops l T ds listed a→(List.range (l.length+1)).countP (fun j=> !listed.getD j true)≤fuel→
  Co P Z h X (G (b.at a (.inRegion ops (Region.linearise.go .any ops fuel t listed [])::k)) cs) v:=by
  intro fuel
  induction fuel with
  |zero=>
   intro t listed a C hc
   have:0<(List.range (l.length+1)).countP (fun j=> !listed.getD j true):=List.countP_pos_iff.2 ⟨l.length,by simp,by simp[C.last]⟩
   omega
  |succ fuel ih=>
   intro t listed a C hc
   have hne:=ready_some (ops:=ops) ht (by rw[C.size,hsz]) (n:=l.length) (by omega) C.last
   simp only[Region.linearise.go]
   change Co P Z h X (G (b.at a (.inRegion ops (match(Region.ready .any ops listed)[t%(Region.ready .any ops listed).length]? with
    |some i=>Region.linearise.go .any ops fuel (t/(Region.ready .any ops listed).length) (listed.setIfInBounds i true) [i]
    |none=>[].reverse)::k)) cs) v
   have hpos:0<(Region.ready .any ops listed).length:=by
    cases hr:Region.ready .any ops listed with
    |nil=>exact absurd hr hne
    |cons x xs=>simp
   have hmod:=Nat.mod_lt t hpos
   rw[List.getElem?_eq_getElem hmod]
   have him:=List.getElem_mem hmod
   generalize(Region.ready .any ops listed)[t%(Region.ready .any ops listed).length]=i at him
   obtain⟨r1,r2,r3⟩:=ready_bind him
   simp only[]
   rw[linearise_go_acc,List.reverse_singleton,List.singleton_append]
   have hiz:i<listed.size:=by rw[C.size];omega
   by_cases hi:i=l.length
   ·subst hi
    have hall:∀j,j<l.length→listed.getD j true=true:=fun j hj=>by
     rw[getD_flip (by rw[C.size];omega) true false]
     exact hs (fun j=>listed.getD j false) (fun i hi hp j hb=>C.shut i hi (by rw[getD_flip (by rw[C.size];omega) true false];exact hp) j hb) (fun j hb=>r3 j hb) j hj
    have hnil:Region.ready .any ops (listed.setIfInBounds l.length true)=[]:=by
     apply List.eq_nil_iff_forall_not_mem.2
     intro j hj
     obtain⟨q1,q2,_⟩:=ready_bind hj
     rw[hsz] at q2
     rw[getD_set hiz] at q1
     by_cases e:j=l.length
     ·rw[if_pos e] at q1;cases q1
     ·rw[if_neg e,hall j (by omega)] at q1
      cases q1
    rw[linearise_nil hnil]
    have ha:a=⟨fin l T,ds⟩:=by
     have:a.tmps=fin l T:=by
      apply Array.ext_getElem?
      intro s
      by_cases hx:∃p∈l,p.1=s
      ·obtain⟨p,hp,rfl⟩:=hx
       rw[fin_at l T p hp hnd (hlt p hp)]
       obtain⟨j,hj,rfl⟩:=List.getElem_of_mem hp
       exact C.got j _ (List.getElem?_eq_getElem hj) (hall j hj)
      ·rw[fin_other l T s fun p hp e=>hx ⟨p,hp,e⟩]
       exact C.rest s fun j p hp _ e=>hx ⟨p,List.mem_of_getElem? hp,e⟩
     cases a
     simp only at this
     rw[this]
     have:=C.defers
     simp only at this
     rw[this]
    rw[ha]
    exact hend
   ·have hil:i<l.length:=by omega
    have hli:l[i]?=some l[i]:=List.getElem?_eq_getElem hil
    refine hop i l[i] hli a C.defers C.tsz (fun j q hq hb=> ?_) (fun s hh=>C.rest s fun j p hp _=>hh p (List.mem_of_getElem? hp)) _ ?_
    ·have hjl:j<l.length:=(List.getElem?_eq_some_iff.1 hq).1
     exact C.got j q hq (by rw[getD_flip (by rw[C.size];omega) true false];exact r3 j hb)
    ·have hset:∀j,(listed.setIfInBounds i true).getD j true=true↔j=i∨listed.getD j true=true:=fun j=>by
      rw[getD_set hiz]
      by_cases e:j=i
      ·simp[e]
      ·simp[e]
     refine ih _ _ _ ⟨by simp[C.size],C.defers,by simp[Act.put,C.tsz],fun j p hp hj=> ?_,fun s hh=> ?_,fun x hx hxl y hb=> ?_, ?_⟩ ?_
     ·show(a.tmps.setIfInBounds l[i].1 l[i].2)[p.1]?=some p.2
      by_cases e:j=i
      ·subst e
       rw[hli] at hp
       obtain rfl:=Option.some.inj hp
       exact Array.getElem?_setIfInBounds_self_of_lt (by rw[C.tsz];exact hlt _ (List.getElem_mem hil))
      ·have hpi:l[i].1≠p.1:=fun e2=>by
        have hjl:j<l.length:=(List.getElem?_eq_some_iff.1 hp).1
        have h1:(l.map (·.1))[i]'(by simpa using hil)=(l.map (·.1))[j]'(by simpa using hjl):=by
         simp only[List.getElem_map]
         rw[e2,(List.getElem?_eq_some_iff.1 hp).2]
        exact e ((List.getElem_inj hnd).1 h1).symm
       rw[Array.getElem?_setIfInBounds_ne hpi]
       exact C.got j p hp (((hset j).1 hj).resolve_left e)
     ·show(a.tmps.setIfInBounds l[i].1 l[i].2)[s]?=T[s]?
      rw[Array.getElem?_setIfInBounds_ne (hh i l[i] hli ((hset i).2 (.inl rfl)))]
      exact C.rest s fun j p hp hj=>hh j p hp ((hset j).2 (.inr hj))
     ·have hy:listed.getD y false=true:=by
       rcases(hset x).1 hxl with rfl|hxl
       ·exact r3 y hb
       ·exact C.shut x hx hxl y hb
      have hys:y<listed.size:=by
       by_cases hys:y<listed.size
       ·exact hys
       ·simp[Array.getD,hys] at hy
      rw[getD_flip (by simpa using hys) false true]
      exact(hset y).2 (.inr (by rw[getD_flip hys true false];exact hy))
     ·rw[getD_set hiz,if_neg (Ne.symm hi)]
      exact C.last
     ·have hlt2:(List.range (l.length+1)).countP (fun j=> !(listed.setIfInBounds i true).getD j true)<(List.range (l.length+1)).countP (fun j=> !listed.getD j true):=by
       have hsub:∀L:List Nat,L.countP (fun j=> !(listed.setIfInBounds i true).getD j true)≤L.countP (fun j=> !listed.getD j true)∧(i∈L→L.countP (fun j=> !(listed.setIfInBounds i true).getD j true)<L.countP (fun j=> !listed.getD j true)):=by
        intro L
        induction L with
        |nil=>exact⟨Nat.le_refl _,fun hh=>by cases hh⟩
        |cons y L ihL=>
         rw[List.countP_cons,List.countP_cons]
         by_cases e:y=i
         ·subst e
          have h1:(listed.setIfInBounds y true).getD y true=true:=(hset y).2 (.inl rfl)
          rw[h1,r1]
          simp only[Bool.not_true,Bool.not_false,if_true,Bool.false_eq_true,if_false]
          exact⟨by omega,fun _=>by omega⟩
         ·have h1:(listed.setIfInBounds i true).getD y true=listed.getD y true:=by
           cases hq:listed.getD y true with
           |true=>exact(hset y).2 (.inr hq)
           |false=>
            cases hq2:(listed.setIfInBounds i true).getD y true with
            |false=>rfl
            |true=>
             rcases(hset y).1 hq2 with h3|h3
             ·exact absurd h3 e
             ·rw[hq] at h3;cases h3
          rw[h1]
          refine⟨by omega,fun hh=> ?_⟩
          rcases List.mem_cons.1 hh with h3|h3
          ·exact absurd h3.symm e
          ·have:=ihL.2 h3;omega
       exact(hsub _).2 (by simp;omega)
      omega
 refine co_region_draw hZ hX fun t=> ?_
 simp only[Region.schedule,hm,Bool.true_or,if_true]
 have hg:∀j,(Array.replicate ops.size false).getD j true=true→ops.size≤j:=fun j hj=>by
  by_cases hlt2:j<ops.size
  ·simp[Array.getD,hlt2] at hj
  ·omega
 refine key ops.size t _ ⟨T,ds⟩ ⟨by simp[hsz],rfl,rfl,fun j p hp hj=> ?_,fun _ _=>rfl,fun i hi hl=> ?_,by simp[Array.getD,hsz]⟩ ?_
 ·have:=hg j hj
  have:=(List.getElem?_eq_some_iff.1 hp).1
  omega
 ·have:=hg i hl
  omega
 ·have:=List.countP_le_length (l:=List.range (l.length+1)) (p:=fun j=> !(Array.replicate ops.size false).getD j true)
  rw[List.length_range] at this
  omega
end
end Co
end Go.Proofs.Ytlngbdggehghgaa

namespace Go.Proofs.Ytlngbdggehghgaa
set_option linter.unusedSimpArgs false
set_option linter.unusedVariables false
namespace Co
open Go.Conc
theorem bind_methods {α:Type} {x:Option α} {f:α→Option TypeInfo} (hf:∀a i,f a=some i→i.methods=#[]) {i:TypeInfo} (h:x.bind f=some i):i.methods=#[]:=by
 cases x with
 |none=>cases h
 |some a=>exact hf a i h
theorem struct_m (info:TypeId→Option TypeInfo) (fs:Array Field) (i:TypeInfo) (h:Made.reckonStruct info fs=some i):i.methods=#[]:=by
 unfold Made.reckonStruct at h
 refine bind_methods (fun r i h=> ?_) h
 dsimp only at h
 split at h
 ·obtain rfl:=Option.some.inj h;rfl
 ·obtain rfl:=Option.some.inj h;rfl
theorem reckon_m (info:TypeId→Option TypeInfo) (d:TypeDesc) (i:TypeInfo) (h:Made.reckon info d=some i):i.methods=#[]:=by
 unfold Made.reckon at h
 split at h
 ·refine bind_methods (fun r i h=> ?_) h
  split at h
  ·cases h
  ·split at h
   ·cases h
   ·exact bind_methods (fun r i h=>by obtain rfl:=Option.some.inj h;rfl) h
  ·exact bind_methods (fun r i h=>by obtain rfl:=Option.some.inj h;rfl) h
 ·exact bind_methods (fun r i h=>bind_methods (fun r i h=>by obtain rfl:=Option.some.inj h;rfl) h) h
 ·exact bind_methods (fun r i h=>bind_methods (fun r i h=>bind_methods (fun r i h=>bind_methods (fun r i h=>by obtain rfl:=Option.some.inj h;rfl) h) h) h) h
 ·exact bind_methods (fun r i h=>bind_methods (fun r i h=>by obtain rfl:=Option.some.inj h;rfl) h) h
 ·exact bind_methods (fun r i h=>by obtain rfl:=Option.some.inj h;rfl) h
 ·exact bind_methods (fun r i h=>bind_methods (fun r i h=>by obtain rfl:=Option.some.inj h;rfl) h) h
 ·exact struct_m _ _ _ h
 ·cases h
def plist:List Nat:=[13,14,16,17,20,22,23,24,25,27,28,29,30,31,33,35,36,37,38,40,41,42,43,44,45,46,47,48,49,50,61,64,65,66,67,68,71,81,82,86,87,103,104]
def Lp (f:Nat):Bool:=plist.contains f
def Mp (m:String):Bool:=m== "Step"||m== "Enabled"
def fnB (P:Program) (f:Nat):Bool:=match P.funcs[f]? with
 |some fn=>fn.body.isSome&& !(fn.name== "runtime.NumGoroutine")&&(match fn.body with|some c=>plainCode P Lp Mp c|none=>false)
 |none=>false
def methB (P:Program):Bool:=P.types.all fun i=>i.methods.all fun m=> !Mp m.name||(match m.func with|some (f,_)=>Lp f|none=>true)
theorem fns_ok:plist.all (fnB Try.prog)=true:=by kernel_rfl
theorem meths_ok:methB Try.prog=true:=by kernel_rfl
theorem texts_of {P:Program} (fns_ok:plist.all (fnB P)=true) (meths_ok:methB P=true):Texts P Lp Mp where
 fn:=fun f hf=>by
  have h1:=List.all_eq_true.1 fns_ok f (by simpa[Lp] using hf)
  unfold fnB at h1
  cases he:P.funcs[f]? with
  |none=>rw[he] at h1;cases h1
  |some fn=>
   rw[he] at h1
   simp only[Bool.and_eq_true,Bool.not_eq_true'] at h1
   exact⟨fn,rfl,h1.1.1,h1.1.2⟩
 meth:=fun t i m f b hi hm hM hf=>by
  have h1:=meths_ok
  unfold methB at h1
  rw[Array.all_eq_true_iff_forall_mem] at h1
  have hi2:i∈P.types∨i.methods=#[]:=by
   unfold Tables.info? at hi
   split at hi
   ·exact .inl (Array.mem_of_getElem? hi)
   ·rename_i hge
    rw[show Made.depth=99+1 from rfl,Made.infoAt,if_neg hge] at hi
    exact .inr (bind_methods (fun d i h=>reckon_m _ d i h) hi)
  rcases hi2 with hi2|hi2
  case inr=>rw[hi2] at hm;simp at hm
  have h2:=h1 i hi2
  rw[Array.all_eq_true_iff_forall_mem] at h2
  have h3:=h2 m (by
   have:=Array.mem_of_find?_eq_some hm
   exact this)
  rw[hM,hf] at h3
  simpa using h3
 text:=fun f fn c hf hfn hc=>by
  have h1:=List.all_eq_true.1 fns_ok f (by simpa[Lp] using hf)
  unfold fnB at h1
  rw[hfn] at h1
  simp only[Bool.and_eq_true,hc] at h1
  exact h1.2
theorem TT:Texts Try.prog Lp Mp:=texts_of fns_ok meths_ok
end Co
end Go.Proofs.Ytlngbdggehghgaa

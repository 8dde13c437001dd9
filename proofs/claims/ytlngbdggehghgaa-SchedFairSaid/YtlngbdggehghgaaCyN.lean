/-
  Plain law: turns by age: no age is as great as the number of tasks. Conditions: as each theorem says.
-/
import Derived.Test.YtlngbdggehghgaaCxX
namespace Go.Proofs.Ytlngbdggehghgaa
set_option linter.unusedSimpArgs false
set_option linter.unusedVariables false
theorem flt_le (p' p:Nat→Bool) (h:∀j,p' j=true→p j=true) (n:Nat):((List.range n).filter p').length≤((List.range n).filter p).length:=by
 induction n with
 |zero=>simp
 |succ n ih=>
  rw[List.range_succ,List.filter_append,List.filter_append,List.length_append,List.length_append,List.filter_cons,List.filter_cons,List.filter_nil]
  cases hp':p' n with
  |false=>simp;split<;>simp<;>omega
  |true=>rw[h n hp'];simp;omega
theorem flt_lt (p' p:Nat→Bool) {i:Nat} (h:∀j,p' j=true→p j=true∧j≠i) (hp:p i=true) (n:Nat) (hi:i<n):((List.range n).filter p').length+1≤((List.range n).filter p).length:=by
 induction n with
 |zero=>omega
 |succ n ih=>
  rw[List.range_succ,List.filter_append,List.filter_append,List.length_append,List.length_append,List.filter_cons,List.filter_cons,List.filter_nil]
  by_cases e:i=n
  ·subst e
   have:p' i=false:=by
    cases h2:p' i with
    |false=>rfl
    |true=>exact absurd rfl (h i h2).2
   rw[this,hp]
   have:=flt_le p' p (fun j hj=>(h j hj).1) i
   simp
   omega
  ·have:=ih (by omega)
   cases hp':p' n with
   |false=>simp;split<;>simp<;>omega
   |true=>rw[(h n hp').1];simp;omega
def oldP (S:SS) (a:Nat) (j:Nat):Bool:=match S.rs[j]? with|some r=>decide ((a:Int)≤r.age)|none=>false
def oldN (S:SS) (a:Nat):Nat:=((List.range S.rs.length).filter (oldP S a)).length
def FI (S:SS):Prop:=∀a:Nat,1≤a→oldN S a=0∨oldN S a+a≤S.rs.length
theorem FI.age {S:SS} (h:FI S) {r:Ru} (hr:r∈S.rs):r.age<(S.rs.length:Int):=by
 obtain⟨j,hj⟩:=List.getElem?_of_mem hr
 have hjl:j<S.rs.length:=(List.getElem?_eq_some_iff.1 hj).1
 by_cases h1:r.age<1
 ·omega
 ·have e:((r.age.toNat:Nat):Int)=r.age:=by omega
  have hp:oldP S r.age.toNat j=true:=by
   unfold oldP
   rw[hj]
   simp
   omega
  have h2:=flt_lt (fun _=>false) (oldP S r.age.toNat) (i:=j) (fun _ h=>by cases h) hp S.rs.length hjl
  have h3:1≤oldN S r.age.toNat:=by
   unfold oldN
   have:((List.range S.rs.length).filter (fun _=>false)).length=0:=by simp
   omega
  rcases h r.age.toNat (by omega) with h4|h4<;>omega
theorem oldN_app {S T:SS} {l:List Ru} (hT:T.rs=S.rs++l) (hl:∀r∈l,r.age=0) {a:Nat} (ha:1≤a):oldN T a=oldN S a:=by
 unfold oldN
 rw[hT,List.length_append,List.range_add,List.filter_append,List.length_append]
 have h1:((List.range S.rs.length).filter (oldP T a))=((List.range S.rs.length).filter (oldP S a)):=by
  refine List.filter_congr fun j hj=> ?_
  unfold oldP
  rw[hT,List.getElem?_append_left (by simpa using hj)]
 have h2:(((List.range l.length).map (S.rs.length+ ·)).filter (oldP T a))=[]:=by
  refine List.filter_eq_nil_iff.2 fun j hj=> ?_
  obtain⟨k,hk,rfl⟩:=List.mem_map.1 hj
  have hk:k<l.length:=by simpa using hk
  unfold oldP
  rw[hT,List.getElem?_append_right (by omega),show S.rs.length+k-S.rs.length=k by omega,List.getElem?_eq_getElem hk]
  simp only[decide_eq_true_eq]
  have:=hl _ (List.getElem_mem hk)
  omega
 rw[h1,h2]
 simp
theorem begS_app (l:List Tk):∀S:SS,∃m,(begS S l).rs=S.rs++m∧∀r∈m,r.age=0:=by
 induction l with
 |nil=>exact fun S=>⟨[],by simp[begS],by simp⟩
 |cons t l ih=>
  intro S
  rw[Co.begS_cons]
  split
  ·obtain⟨m,h1,h2⟩:=ih (addS S t)
   refine⟨newR S.rs.length t::m, ?_,fun r hr=> ?_⟩
   ·rw[h1];simp[addS]
   ·rcases List.mem_cons.1 hr with rfl|hr
    ·rfl
    ·exact h2 r hr
  ·exact ih S
theorem FI.beg {S:SS} (h:FI S) (l:List Tk):FI (begS S l):=by
 obtain⟨m,h1,h2⟩:=begS_app l S
 intro a ha
 rw[oldN_app h1 h2 ha]
 rcases h a ha with h3|h3
 ·exact .inl h3
 ·refine .inr ?_
  rw[h1,List.length_append]
  omega
theorem FI0 (most:Int):FI (Co.S0 most):=fun a _=> .inl rfl
theorem fairI_max {S:SS} {L:List Nat}:∀j∈L,ageOf S j≤ageOf S (fairI S L):=by
 have key:∀(l:List Nat) (b:Nat),ageOf S b≤ageOf S (l.foldl (fun b k=>if ageOf S b<ageOf S k then k else b) b)∧∀j∈l,ageOf S j≤ageOf S (l.foldl (fun b k=>if ageOf S b<ageOf S k then k else b) b):=by
  intro l
  induction l with
  |nil=>exact fun b=>⟨Int.le_refl _,fun j hj=>by cases hj⟩
  |cons y l ih=>
   intro b
   rw[List.foldl_cons]
   by_cases hb:ageOf S b<ageOf S y
   ·rw[if_pos hb]
    obtain⟨h1,h2⟩:=ih y
    refine⟨by omega,fun j hj=> ?_⟩
    rcases List.mem_cons.1 hj with rfl|hj
    ·exact h1
    ·exact h2 j hj
   ·rw[if_neg hb]
    obtain⟨h1,h2⟩:=ih b
    refine⟨h1,fun j hj=> ?_⟩
    rcases List.mem_cons.1 hj with rfl|hj
    ·omega
    ·exact h2 j hj
 exact(key L (L.headD 0)).2
theorem FI.give {D:Wd} {S:SS} {x:RW} {L:List Nat} {i:Nat} (h:FI S) (hi:i<S.rs.length) (hmax:∀j∈L,ageOf S j≤ageOf S i):FI (giveS D S x L i).1:=by
 unfold giveS
 rw[List.getElem?_eq_getElem hi]
 refine FI.beg ?_ _
 intro a ha
 have hlen:((agedL L i S.rs).set i ⟨{(D.st x S.rs[i].task).1 with id:=S.rs[i].task.id},(D.st x S.rs[i].task).2.1,0⟩).length=S.rs.length:=by simp[agedL]
 generalize hT:(⟨(agedL L i S.rs).set i ⟨{(D.st x S.rs[i].task).1 with id:=S.rs[i].task.id},(D.st x S.rs[i].task).2.1,0⟩,S.turns++[⟨S.rs[i].task.id,S.rs[i].wait,L.length⟩],S.most,S.closed⟩:SS)=T
 have hTl:T.rs.length=S.rs.length:=by rw[←hT];exact hlen
 have hp:∀j,oldP T a j=true→(j∈L∧j≠i)∧oldP S (a-1) j=true:=by
  intro j hj
  unfold oldP at hj⊢
  rw[←hT] at hj
  simp only at hj
  rw[List.getElem?_set] at hj
  by_cases e:i=j
  ·subst e
   rw[if_pos rfl] at hj
   split at hj
   ·rename_i r hr
    split at hr
    ·cases hr
     simp at hj
     omega
    ·cases hr
   ·cases hj
  ·rw[if_neg e] at hj
   unfold agedL at hj
   rw[List.getElem?_mapIdx] at hj
   cases hr:S.rs[j]? with
   |none=>rw[hr] at hj;simp at hj
   |some r=>
    rw[hr] at hj
    simp only[Option.map_some,agedR,decide_eq_true_eq] at hj
    rw[if_neg (Ne.symm e)] at hj
    by_cases hm:j∈L
    ·rw[if_pos hm] at hj
     refine⟨⟨hm,Ne.symm e⟩, ?_⟩
     simp only[decide_eq_true_eq]
     omega
    ·rw[if_neg hm] at hj
     omega
 unfold oldN
 rw[hTl]
 by_cases h0:((List.range S.rs.length).filter (oldP T a)).length=0
 ·exact .inl h0
 ·obtain⟨j,hj⟩:=List.exists_mem_of_length_pos (Nat.pos_of_ne_zero h0)
  have hj2:=hp j (List.mem_filter.1 hj).2
  have hjl:=List.mem_range.1 (List.mem_filter.1 hj).1
  have hip:oldP S (a-1) i=true:=by
   have h3:=hmax j hj2.1.1
   have h4:=hj2.2
   unfold oldP at h4⊢
   unfold ageOf at h3
   rw[List.getElem?_eq_getElem hi]
   rw[List.getElem?_eq_getElem hi,List.getElem?_eq_getElem hjl] at h3
   rw[List.getElem?_eq_getElem hjl] at h4
   simp only[Option.map_some,Option.getD_some,decide_eq_true_eq] at h3 h4⊢
   omega
  have h5:=flt_lt (oldP T a) (oldP S (a-1)) (i:=i) (fun k hk=>⟨(hp k hk).2,(hp k hk).1.2⟩) hip S.rs.length hi
  by_cases h1:a=1
  ·subst h1
   have h6:((List.range S.rs.length).filter (oldP S (1-1))).length≤S.rs.length:=Nat.le_trans (List.length_filter_le _ _) (by simp)
   exact .inr (by omega)
  ·have h6:=h (a-1) (by omega)
   unfold oldN at h6
   exact .inr (by omega)
theorem FI.fair {D:Wd} {S:SS} {x:RW} (h:FI S):FI (Co.FairS D 1 S x).2.1:=by
 show FI (if(1:Int)<0 then((0,7),S,x) else fairS D (1:Int).toNat 0 S x:(Int×Int)×SS×RW).2.1
 rw[if_neg (by decide),show((1:Int).toNat)=1 from rfl]
 unfold fairS
 split
 ·rename_i hn
  unfold fairS
  have hne:enI S D.o x≠[]:=fun e=>by
   unfold nextS at hn
   rw[e] at hn
   split at hn<;>simp at hn
  exact h.give (enI_lt S D.o x _ (fairI_mem hne)) fairI_max
 ·exact h
end Go.Proofs.Ytlngbdggehghgaa

/-
  Plain law: the places of a row lie side by side (groundlingref15.some). Conditions: none.
-/
import Derived.Test.YtlckmjiioohcmaaGreatDoorRvS
import Derived.Test.YtlckmjiioohcmaaGreatDoorPlAd
namespace Go.Proofs.YtlckmjiioohcmaaGreatDoor
open Go.RowKit
theorem someTo_mid {sec row:Int} {P Q R:List Pl} (hP:∀p∈P,hitP sec row p=false) (hQ:∀p∈Q,hitP sec row p=true) (hR:∀p∈R,hitP sec row p=false) (hq:Q≠[]):
 someTo sec row (P++(Q++R)) (P++(Q++R)).length=((P.length:Int),(Q.length:Int)):=by
 have h1:∀k,k≤P.length→someTo sec row (P++(Q++R)) k=(0,0):=by
  intro k
  induction k with
  |zero=>intro _;rfl
  |succ k ih=>
   intro hk
   simp only[someTo,List.getElem?_append_left (show k<P.length by omega),List.getElem?_eq_getElem (show k<P.length by omega),hP _ (List.getElem_mem (show k<P.length by omega)),ih (by omega)]
   rfl
 have h2:∀j,j≤Q.length→someTo sec row (P++(Q++R)) (P.length+j)=(if j=0 then 0 else(P.length:Int),(j:Int)):=by
  intro j
  induction j with
  |zero=>intro _;rw[Nat.add_zero,h1 _ (Nat.le_refl _)];rfl
  |succ j ih=>
   intro hj
   have e:(P++(Q++R))[P.length+j]?=some (Q[j]'(by omega)):=by
    rw[List.getElem?_append_right (by omega),Nat.add_sub_cancel_left,List.getElem?_append_left (by omega),List.getElem?_eq_getElem (by omega)]
   rw[←Nat.add_assoc]
   simp only[someTo,e,hQ _ (List.getElem_mem (show j<Q.length by omega)),ih (by omega),if_true]
   by_cases h0:j=0
   ·subst h0;simp
   ·simp[h0]
 have hq':0<Q.length:=List.length_pos_iff.2 hq
 have h3:∀j,j≤R.length→someTo sec row (P++(Q++R)) (P.length+Q.length+j)=((P.length:Int),(Q.length:Int)):=by
  intro j
  induction j with
  |zero=>intro _;rw[Nat.add_zero,h2 _ (Nat.le_refl _),if_neg (by omega)]
  |succ j ih=>
   intro hj
   have e:(P++(Q++R))[P.length+Q.length+j]?=some (R[j]'(by omega)):=by
    rw[List.getElem?_append_right (by omega),List.getElem?_append_right (by omega),show P.length+Q.length+j-P.length-Q.length=j by omega,List.getElem?_eq_getElem (by omega)]
   rw[←Nat.add_assoc]
   simp only[someTo,e,hR _ (List.getElem_mem (show j<R.length by omega)),ih (by omega)]
   rfl
 have:=h3 R.length (Nat.le_refl _)
 rw[show(P++(Q++R)).length=P.length+Q.length+R.length by simp;omega]
 exact this
theorem plSec_append (i:Nat):∀(a b:List Int) (k:Nat),plSec i (a++b) k=plSec i a k++plSec i b (k+a.length)
 |[],b,k=>by simp[plSec]
 |r::a,b,k=>by
  simp only[List.cons_append,plSec,plSec_append i a b (k+1),List.append_assoc,List.length_cons]
  congr 3
  omega
theorem plAll_append:∀(a b:List Sec) (i:Nat),plAll (a++b) i=plAll a i++plAll b (i+a.length)
 |[],b,i=>by simp[plAll]
 |s::a,b,i=>by
  simp only[List.cons_append,plAll,plAll_append a b (i+1),List.append_assoc,List.length_cons]
  congr 3
  omega
theorem plSec_mem {i:Nat}:∀{l:List Int} {k:Nat} {p:Pl},p∈plSec i l k→p.sec=(i:Int)∧∃j:Nat,k≤j∧j<k+l.length∧p.row=(j:Int)
 |[],k,p,h=>by simp[plSec] at h
 |r::l,k,p,h=>by
  simp only[plSec,List.mem_append] at h
  rcases h with h|h
  ·simp only[plRow,List.mem_map] at h
   obtain⟨n,_,rfl⟩:=h
   exact⟨rfl,k,Nat.le_refl _,by simp,rfl⟩
  ·obtain⟨h1,j,h2,h3,h4⟩:=plSec_mem h
   exact⟨h1,j,by omega,by simp only[List.length_cons];omega,h4⟩
theorem plAll_mem:∀{l:List Sec} {i:Nat} {p:Pl},p∈plAll l i→∃j:Nat,i≤j∧j<i+l.length∧p.sec=(j:Int)
 |[],i,p,h=>by simp[plAll] at h
 |s::l,i,p,h=>by
  simp only[plAll,List.mem_append] at h
  rcases h with h|h
  ·exact⟨i,Nat.le_refl _,by simp,(plSec_mem h).1⟩
  ·obtain⟨j,h2,h3,h4⟩:=plAll_mem h
   exact⟨j,by omega,by simp only[List.length_cons];omega,h4⟩
theorem some_row {x:Ve} (hc:(checkV x).2=0) {sec k:Nat} (hs:sec<x.secs.length) (hk:k<x.secs[sec].rows.length):
 someM (sec:Int) (k:Int) (plAll x.secs 0)=(upTo x.secs sec+sum (x.secs[sec].rows.take k),x.secs[sec].rows[k],0):=by
 have hok:=(checkV_ok hc).1
 have hrw:=secsOk_rows hok _ (List.getElem_mem hs)
 have hm:=hrw.2 _ (List.getElem_mem hk)
 have e1:x.secs=x.secs.take sec++x.secs[sec]::x.secs.drop (sec+1):=by rw[←List.drop_eq_getElem_cons hs,List.take_append_drop]
 have e2:x.secs[sec].rows=x.secs[sec].rows.take k++x.secs[sec].rows[k]::x.secs[sec].rows.drop (k+1):=by rw[←List.drop_eq_getElem_cons hk,List.take_append_drop]
 have e3:plAll x.secs 0=(plAll (x.secs.take sec) 0++plSec sec (x.secs[sec].rows.take k) 0)++(plRow sec k x.secs[sec].rows[k]++(plSec sec (x.secs[sec].rows.drop (k+1)) (k+1)++plAll (x.secs.drop (sec+1)) (sec+1))):=by
  have f1:plSec sec x.secs[sec].rows 0=plSec sec (x.secs[sec].rows.take k) 0++(plRow sec k x.secs[sec].rows[k]++plSec sec (x.secs[sec].rows.drop (k+1)) (k+1)):=by
   conv=>lhs;rw[e2]
   rw[plSec_append]
   simp only[plSec,List.length_take,Nat.min_eq_left (Nat.le_of_lt hk),Nat.zero_add]
  conv=>lhs;rw[e1]
  rw[plAll_append]
  simp only[plAll,List.length_take,Nat.min_eq_left (Nat.le_of_lt hs),Nat.zero_add]
  rw[f1]
  simp only[List.append_assoc]
 have hT:=someTo_mid (sec:=(sec:Int)) (row:=(k:Int)) (P:=plAll (x.secs.take sec) 0++plSec sec (x.secs[sec].rows.take k) 0) (Q:=plRow sec k x.secs[sec].rows[k]) (R:=plSec sec (x.secs[sec].rows.drop (k+1)) (k+1)++plAll (x.secs.drop (sec+1)) (sec+1))
  (fun p hp=>by
   rcases List.mem_append.1 hp with hp|hp
   ·obtain⟨j,_,h3,h4⟩:=plAll_mem hp
    rw[List.length_take] at h3
    unfold hitP
    rw[h4,show((j:Int)==(sec:Int))=false from by simp;omega]
    rfl
   ·obtain⟨h1,j,_,h3,h4⟩:=plSec_mem hp
    rw[List.length_take] at h3
    unfold hitP
    rw[h1,h4,show((j:Int)==(k:Int))=false from by simp;omega]
    simp)
  (fun p hp=>by
   simp only[plRow,List.mem_map] at hp
   obtain⟨n,_,rfl⟩:=hp
   simp[hitP])
  (fun p hp=>by
   rcases List.mem_append.1 hp with hp|hp
   ·obtain⟨h1,j,h2,h3,h4⟩:=plSec_mem hp
    unfold hitP
    rw[h1,h4,show((j:Int)==(k:Int))=false from by simp;omega]
    simp
   ·obtain⟨j,h2,h3,h4⟩:=plAll_mem hp
    unfold hitP
    rw[h4,show((j:Int)==(sec:Int))=false from by simp;omega]
    rfl)
  (by intro e;have:=congrArg List.length e;simp[plRow] at this;omega)
 rw[←e3] at hT
 have l1:=plAll_len (x.secs.take sec) 0 fun s hs'=>(secsOk_rows hok s (List.mem_of_mem_take hs')).2
 have l2:=plSec_len sec (x.secs[sec].rows.take k) 0 fun n hn=>hrw.2 n (List.mem_of_mem_take hn)
 have l3:((plRow sec k x.secs[sec].rows[k]).length:Int)=x.secs[sec].rows[k]:=by simp[plRow];omega
 unfold someM
 rw[hT]
 simp only[l3]
 rw[if_neg (by omega)]
 simp only[List.length_append,upTo]
 push_cast
 rw[l1,l2]
end Go.Proofs.YtlckmjiioohcmaaGreatDoor

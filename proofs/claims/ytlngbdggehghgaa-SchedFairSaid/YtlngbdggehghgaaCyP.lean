/-
  Plain law: one turn by age: who has it, and how old the others are then. Conditions: as each theorem says.
-/
import Derived.Test.YtlngbdggehghgaaCyN
namespace Go.Proofs.Ytlngbdggehghgaa
set_option linter.unusedSimpArgs false
set_option linter.unusedVariables false
namespace Co
theorem Fair1 (D:Wd) (S:SS) (x:RW):FairS D 1 S x=if nextS S D.o x=0 then((1,0),giveS D S x (enI S D.o x) (fairI S (enI S D.o x))) else((0,nextS S D.o x),S,x):=by
 show(if(1:Int)<0 then((0,7),S,x) else fairS D (1:Int).toNat 0 S x:(Int×Int)×SS×RW)=_
 rw[if_neg (by decide),show((1:Int).toNat)=1 from rfl]
 unfold fairS
 split
 ·unfold fairS
  rfl
 ·rfl
theorem next_cases {S:SS} {o:Option Nat} {x:RW} (h:nextS S o x≠0):nextS S o x=3∨(nextS S o x=4∧enI S o x=[]):=by
 unfold nextS at h⊢
 split
 ·exact .inl rfl
 ·rename_i h1
  rw[if_neg h1] at h
  split
  ·rename_i h2;exact .inr ⟨rfl,h2⟩
  ·rename_i h2;rw[if_neg h2] at h;exact absurd rfl h
theorem next_ok {S:SS} {o:Option Nat} {x:RW} (h:nextS S o x=0):enI S o x≠[]:=by
 intro e
 unfold nextS at h
 rw[e] at h
 split at h<;>simp at h
theorem give_len (D:Wd) {S:SS} {x:RW} {L:List Nat} {i:Nat}:S.rs.length≤(giveS D S x L i).1.rs.length:=by
 unfold giveS
 split
 ·exact Nat.le_refl _
 ·obtain⟨m,h,_⟩:=begS_app (D.st x (by assumption:Ru).task).2.2.1 ⟨(agedL L i S.rs).set i ⟨{(D.st x (by assumption:Ru).task).1 with id:=(by assumption:Ru).task.id},(D.st x (by assumption:Ru).task).2.1,0⟩,S.turns++[⟨(by assumption:Ru).task.id,(by assumption:Ru).wait,L.length⟩],S.most,S.closed⟩
  simp only
  rw[h]
  simp[agedL]
theorem give_turns (D:Wd) {S:SS} {x:RW} {L:List Nat} {i:Nat} {r:Ru} (hr:S.rs[i]?=some r):(giveS D S x L i).1.turns=S.turns++[⟨r.task.id,r.wait,L.length⟩]:=by
 unfold giveS
 rw[hr]
 exact(begS_closed _ _).2.2
theorem give_age (D:Wd) {S:SS} {x:RW} {L:List Nat} {i j:Nat} (hi:i<S.rs.length) (hj:j<S.rs.length) (hjL:j∈L):ageOf (giveS D S x L i).1 j=if j=i then 0 else ageOf S j+1:=by
 unfold giveS
 rw[List.getElem?_eq_getElem hi]
 simp only
 generalize hT:(⟨(agedL L i S.rs).set i ⟨{(D.st x S.rs[i].task).1 with id:=S.rs[i].task.id},(D.st x S.rs[i].task).2.1,0⟩,S.turns++[⟨S.rs[i].task.id,S.rs[i].wait,L.length⟩],S.most,S.closed⟩:SS)=T
 have hTj:T.rs[j]?=some (if j=i then⟨{(D.st x S.rs[i].task).1 with id:=S.rs[i].task.id},(D.st x S.rs[i].task).2.1,0⟩ else agedR L i j S.rs[j]):=by
  rw[←hT]
  show(List.set _ i _)[j]?=_
  rw[List.getElem?_set]
  by_cases e:i=j
  ·subst e
   rw[if_pos rfl,if_pos (by simpa[agedL] using hi),if_pos rfl]
  ·rw[if_neg e,if_neg (Ne.symm e)]
   unfold agedL
   rw[List.getElem?_mapIdx,List.getElem?_eq_getElem hj]
   rfl
 unfold ageOf
 rw[begS_pre _ _ hTj,List.getElem?_eq_getElem hj]
 by_cases e:j=i
 ·rw[if_pos e,if_pos e];rfl
 ·rw[if_neg e,if_neg e]
  simp only[Option.map_some,Option.getD_some,agedR]
  rw[if_neg e,if_pos hjL]
theorem age_of {S:SS} (hop:S.closed=false) {j:Nat} (hj:j<S.rs.length):findS S ((j:Int)+1)=0∧ageS S ((j:Int)+1)=ageOf S j:=by
 have h:findS S ((j:Int)+1)=0:=by unfold findS;rw[hop,if_neg (by decide),if_pos (by omega)]
 refine⟨h, ?_⟩
 unfold ageS
 rw[if_pos h,show((j:Int)+1-1).toNat=j by omega]
 rfl
theorem ageOf_bd {S:SS} (h:S.Ok) (j:Nat):0≤ageOf S j∧ageOf S j≤20000:=by
 unfold ageOf
 cases hr:S.rs[j]? with
 |none=>exact⟨Int.le_refl _,by decide⟩
 |some r=>
  have:=h.age r (List.mem_of_getElem? hr)
  have:=h.cnt
  have:=h.most
  show 0≤r.age∧r.age≤20000
  omega
def bestS (S:SS) (E:List Nat) (k:Nat):Nat:=(E.take k).foldl (fun b k=>if ageOf S b<ageOf S k then k else b) (E.headD 0)
def agesE (S:SS) (E:List Nat):List Int:=E.map (ageOf S)
theorem agesE_len (S:SS) (E:List Nat):(agesE S E).length=E.length:=by simp[agesE]
theorem agesE_at {S:SS} {E:List Nat} {k:Nat} (hk:k<E.length):(agesE S E)[k]'(by rw[agesE_len];exact hk)=ageOf S E[k]:=by simp[agesE]
theorem nums_at {E:List Nat} {k:Nat} (hk:k<E.length):(nums E)[k]'(by simp[nums];exact hk)=(E[k]:Int)+1:=by simp[nums]
theorem numsLen (l:List Nat):(nums l).length=l.length:=by simp[nums]
theorem best_one {S:SS} {E:List Nat} (h:0<E.length):bestS S E 1=E[0]:=by
 unfold bestS
 rw[show(1:Nat)=0+1 from rfl,foldl_take h]
 have e:E.headD 0=E[0]:=by
  cases E with
  |nil=>simp at h
  |cons y E=>rfl
 rw[e,List.take_zero,List.foldl_nil]
 split<;>rfl
theorem best_next {S:SS} {E:List Nat} {k:Nat} (h:k<E.length):bestS S E (k+1)=if ageOf S (bestS S E k)<ageOf S E[k] then E[k] else bestS S E k:=by
 unfold bestS
 rw[foldl_take h]
theorem best_all (S:SS) (E:List Nat):bestS S E E.length=fairI S E:=by
 unfold bestS fairI
 rw[List.take_length]
def BestAt (S:SS) (E:List Nat) (k:Nat) (z:Int):Prop:=(k=0∧z= -1)∨(1≤k∧∃q:Nat,z=(q:Int)∧q<k∧E[q]?=some (bestS S E k))
theorem BestAt.zero (S:SS) (E:List Nat):BestAt S E 0 (-1):=.inl ⟨rfl,rfl⟩
theorem BestAt.first {S:SS} {E:List Nat} (h:0<E.length):BestAt S E 1 0:=.inr ⟨by omega,0,rfl,by omega,by rw[best_one h,List.getElem?_eq_getElem h]⟩
theorem BestAt.take {S:SS} {E:List Nat} {k:Nat} (hk:k<E.length) (hb:ageOf S (bestS S E k)<ageOf S E[k]):BestAt S E (k+1) k:=.inr ⟨by omega,k,rfl,by omega,by rw[best_next hk,if_pos hb,List.getElem?_eq_getElem hk]⟩
theorem BestAt.keep {S:SS} {E:List Nat} {k q:Nat} (hk:k<E.length) (h:q<k) (he:E[q]?=some (bestS S E k)) (hb:¬ageOf S (bestS S E k)<ageOf S E[k]):BestAt S E (k+1) q:=.inr ⟨by omega,q,rfl,by omega,by rw[best_next hk,if_neg hb];exact he⟩
end Co
end Go.Proofs.Ytlngbdggehghgaa

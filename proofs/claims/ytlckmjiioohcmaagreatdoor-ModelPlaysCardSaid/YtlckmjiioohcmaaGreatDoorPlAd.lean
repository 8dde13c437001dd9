/-
  Plain laws for layer 19 (adjacent): runs of free seats in a row, and how many seats are alone when some of a run are taken. Conditions: none.
-/
import Derived.Test.YtlckmjiioohcmaaGreatDoorMdP
namespace Go.Proofs.YtlckmjiioohcmaaGreatDoor
open Go.RowKit
def segs:List Bool→List Nat
 |[]=>[0]
 |true::l=>match segs l with
  |c::t=>(c+1)::t
  |[]=>[1]
 |false::l=>0::segs l
theorem segs_ne:∀l,∃c t,segs l=c::t
 |[]=>⟨_,_,rfl⟩
 |true::l=>by
  obtain⟨c,t,h⟩:=segs_ne l
  exact⟨c+1,t,by simp[segs,h]⟩
 |false::l=>⟨_,_,rfl⟩
theorem segs_false:∀a b:List Bool,segs (a++false::b)=segs a++segs b
 |[],b=>rfl
 |true::a,b=>by
  obtain⟨c,t,h⟩:=segs_ne a
  simp[segs,segs_false a b,h]
 |false::a,b=>by simp[segs,segs_false a b]
theorem segs_trues:∀c:Nat,segs (List.replicate c true)=[c]
 |0=>rfl
 |c+1=>by simp[List.replicate_succ,segs,segs_trues c]
def al (l:List Bool):Nat:=(segs l).countP (· ==1)
theorem al_false (a b:List Bool):al (a++false::b)=al a+al b:=by simp[al,segs_false]
theorem al_trues (c:Nat):al (List.replicate c true)=if c=1 then 1 else 0:=by
 simp[al,segs_trues,List.countP_cons]
theorem al_falses:∀(n:Nat) (b:List Bool),al (List.replicate n false++false::b)=al b
 |0,b=>by simp[al,segs]
 |n+1,b=>by
  have:List.replicate (n+1) false++false::b=[]++false::(List.replicate n false++false::b):=by simp[List.replicate_succ]
  rw[this,al_false,al_falses n b]
  simp[al,segs]
def EndL (A:List Bool):Prop:=A=[]∨∃a,A=a++[false]
def EndR (B:List Bool):Prop:=B=[]∨∃b,B=false::b
def alL (A:List Bool):Nat:=if A=[] then 0 else al A.dropLast
def alR (B:List Bool):Nat:=if B=[] then 0 else al B.tail
theorem al_mid {A B:List Bool} (hA:EndL A) (hB:EndR B) (x:List Bool):al (A++(x++B))=alL A+al x+alR B:=by
 rcases hA with rfl|⟨a,rfl⟩<;>rcases hB with rfl|⟨b,rfl⟩
 ·simp[alL,alR]
 ·simp[alL,alR,al_false]
 ·have:a++[false]++(x++[])=a++false::x:=by simp
  rw[this,al_false]
  simp[alL,alR]
 ·have:a++[false]++(x++false::b)=a++false::(x++false::b):=by simp
  rw[this,al_false,al_false]
  simp[alL,alR]
  omega
theorem al_taken {A B:List Bool} (hA:EndL A) (hB:EndR B) {c k n:Nat} (hn:1≤n) (hk:k+n≤c):
 (al (A++(List.replicate k true++(List.replicate n false++(List.replicate (c-n-k) true++B)))):Int)=al (A++(List.replicate c true++B))+((if k=1 then 1 else 0)+(if c-n-k=1 then 1 else 0)-(if c=1 then 1 else 0)):=by
 have h1:=al_mid hA hB (List.replicate c true)
 have e:A++(List.replicate k true++(List.replicate n false++(List.replicate (c-n-k) true++B)))=A++((List.replicate k true++(List.replicate n false++List.replicate (c-n-k) true))++B):=by simp
 rw[e,h1,al_mid hA hB]
 obtain⟨m,rfl⟩:∃m,n=m+1:=⟨n-1,by omega⟩
 have e2:List.replicate k true++(List.replicate (m+1) false++List.replicate (c-(m+1)-k) true)=List.replicate k true++false::(List.replicate m false++List.replicate (c-(m+1)-k) true):=by simp[List.replicate_succ]
 have e3:al (List.replicate m false++List.replicate (c-(m+1)-k) true)=al (List.replicate (c-(m+1)-k) true):=by
  cases m with
  |zero=>simp
  |succ m=>
   have:List.replicate (m+1) false++List.replicate (c-(m+1+1)-k) true=List.replicate m false++false::List.replicate (c-(m+1+1)-k) true:=by
    rw[List.replicate_succ',List.append_assoc];rfl
   rw[this,al_falses]
 rw[e2,al_false,e3,al_trues,al_trues,al_trues]
 split<;>split<;>split<;>omega
def runsL (row:Int):Nat→Nat→List Bool→List Ru
 |p,c,[]=>if 0<c then[⟨row,((p-c:Nat):Int),(c:Int)⟩] else[]
 |p,c,true::bs=>runsL row (p+1) (c+1) bs
 |p,c,false::bs=>(if 0<c then[⟨row,((p-c:Nat):Int),(c:Int)⟩] else[])++runsL row (p+1) 0 bs
theorem rep_snoc (c:Nat) (bs:List Bool):List.replicate (c+1) true++bs=List.replicate c true++true::bs:=by
 rw[List.replicate_succ',List.append_assoc];rfl
theorem runsL_split {row:Int}:∀{bs:List Bool} {p c:Nat} (_:c≤p) {r:Ru},r∈runsL row p c bs→
 ∃A B,∃m:Nat,List.replicate c true++bs=A++(List.replicate m true++B)∧0<m∧r=⟨row,((p-c+A.length:Nat):Int),(m:Int)⟩∧EndL A∧EndR B
 |[],p,c,hc,r,h=>by
  simp only[runsL] at h
  split at h
  ·rename_i h0
   simp only[List.mem_singleton] at h
   exact⟨[],[],c,by simp,h0,by simpa using h,.inl rfl,.inl rfl⟩
  ·simp at h
 |true::bs,p,c,hc,r,h=>by
  simp only[runsL] at h
  obtain⟨A,B,m,h1,h2,h3,h4,h5⟩:=runsL_split (by omega) h
  refine⟨A,B,m,by rw[←rep_snoc];exact h1,h2, ?_,h4,h5⟩
  rw[h3]
  congr 2
  omega
 |false::bs,p,c,hc,r,h=>by
  simp only[runsL,List.mem_append] at h
  rcases h with h|h
  ·split at h
   ·rename_i h0
    simp only[List.mem_singleton] at h
    exact⟨[],false::bs,c,by simp,h0,by simpa using h,.inl rfl,.inr ⟨bs,rfl⟩⟩
   ·simp at h
  ·obtain⟨A,B,m,h1,h2,h3,h4,h5⟩:=runsL_split (Nat.zero_le _) h
   refine⟨List.replicate c true++false::A,B,m, ?_,h2, ?_, ?_,h5⟩
   ·simp only[List.replicate_zero,List.nil_append] at h1
    rw[h1];simp
   ·rw[h3]
    congr 2
    simp
    omega
   ·rcases h4 with rfl|⟨a,rfl⟩
    ·exact .inr ⟨List.replicate c true,rfl⟩
    ·exact .inr ⟨List.replicate c true++false::a,by simp⟩
theorem runsL_alone {row:Int}:∀(bs:List Bool) (p c:Nat),(runsL row p c bs).countP (fun r=>r.many==1)=al (List.replicate c true++bs)
 |[],p,c=>by
  simp only[runsL,List.append_nil,al_trues]
  split
  ·simp[List.countP_cons]
   split<;>split<;>omega
  ·simp
   omega
 |true::bs,p,c=>by
  simp only[runsL]
  rw[runsL_alone bs,rep_snoc]
 |false::bs,p,c=>by
  simp only[runsL,List.countP_append]
  rw[runsL_alone bs,al_false,al_trues]
  simp only[List.replicate_zero,List.nil_append]
  split
  ·simp[List.countP_cons]
   split<;>split<;>omega
  ·rw[if_neg (by omega)]
   simp
def rowOf (fr:List Bool) (f n:Nat):List Bool:=(List.range n).map fun i=>fr.getD (f+i) false
theorem runRow_runsL (fr:List Bool) (row:Int) (f n:Nat) (out:List Ru):∀k,k≤n→
 ∃m:Nat,m≤k∧(runRow fr row f n out k).2=⟨row,((f+k-m:Nat):Int),(m:Int)⟩∧(runRow fr row f n out k).1++runsL row (f+k) m ((rowOf fr f n).drop k)=out++runsL row f 0 (rowOf fr f n)
 |0,_=>⟨0,Nat.le_refl _,by simp[runRow],by simp[runRow]⟩
 |k+1,hk=>by
  obtain⟨m,h1,h2,h3⟩:=runRow_runsL fr row f n out k (by omega)
  have hd:(rowOf fr f n).drop k=fr.getD (f+k) false::(rowOf fr f n).drop (k+1):=by
   rw[List.drop_eq_getElem_cons (by simp[rowOf];omega)]
   simp[rowOf]
  rw[hd] at h3
  simp only[runRow]
  rw[show decide (k<n)=true from decide_eq_true (by omega),Bool.true_and]
  generalize runRow fr row f n out k=st at*
  obtain⟨o,cur⟩:=st
  simp only at h2 h3
  subst h2
  cases hg:fr.getD (f+k) false with
  |true=>
   refine⟨m+1,by omega, ?_, ?_⟩
   ·simp only[runStep,if_true]
    congr 1
    ·omega
   ·rw[hg] at h3
    simp only[runsL] at h3
    simpa[runStep,Nat.add_assoc] using h3
  |false=>
   refine⟨0,by omega, ?_, ?_⟩
   ·simp[runStep]
    omega
   ·rw[hg] at h3
    simp only[runsL] at h3
    rw[←h3]
    by_cases h0:0<m
    ·simp[runStep,h0,Nat.add_assoc]
    ·simp[runStep,h0,Nat.add_assoc]
theorem runRow_all (fr:List Bool) (row:Int) (f n:Nat) (out:List Ru):(runRow fr row f n out (n+1)).1=out++runsL row f 0 (rowOf fr f n):=by
 obtain⟨m,h1,h2,h3⟩:=runRow_runsL fr row f n out n (Nat.le_refl _)
 rw[←h3]
 simp only[runRow]
 generalize runRow fr row f n out n=st at*
 obtain⟨o,cur⟩:=st
 simp only at h2
 subst h2
 rw[List.drop_eq_nil_of_le (by simp[rowOf])]
 by_cases h0:0<m
 ·simp[runStep,runsL,h0]
 ·simp[runStep,runsL,h0]
def offR (rows:List Int) (f:Nat):Nat→Nat
 |0=>f
 |i+1=>offR rows f i+(rows.getD i 0).toNat
theorem offR_le (rows:List Int) (f:Nat) {i:Nat}:∀{j},i≤j→offR rows f i≤offR rows f j
 |0,h=>by
  obtain rfl:i=0:=by omega
  exact Nat.le_refl _
 |j+1,h=>by
  by_cases e:i=j+1
  ·subst e;exact Nat.le_refl _
  ·have:=offR_le rows f (i:=i) (j:=j) (by omega)
   simp only[offR]
   omega
def rowRuns (fr:List Bool) (rows:List Int) (f i:Nat):List Ru:=runsL (i:Int) (offR rows f i) 0 (rowOf fr (offR rows f i) (rows.getD i 0).toNat)
theorem runsTo_flat (fr:List Bool) (rows:List Int) (f:Nat):∀k,runsTo fr rows f k=((List.range k).flatMap (rowRuns fr rows f),offR rows f k)
 |0=>rfl
 |k+1=>by
  simp only[runsTo,runsTo_flat fr rows f k,runRow_all,List.range_succ,List.flatMap_append,List.flatMap_cons,List.flatMap_nil,List.append_nil,offR]
  rfl
def takeS (fr:List Bool) (s n:Nat):List Bool:=(List.range fr.length).map fun i=>if s≤i∧i<s+n then false else fr.getD i false
theorem takeS_len (fr:List Bool) (s n:Nat):(takeS fr s n).length=fr.length:=by simp[takeS]
theorem takeS_get (fr:List Bool) (s n i:Nat):(takeS fr s n).getD i false=if s≤i∧i<s+n then false else fr.getD i false:=by
 unfold takeS
 rw[List.getD_eq_getElem?_getD,List.getElem?_map]
 by_cases h:i<fr.length
 ·rw[List.getElem?_range h];rfl
 ·rw[List.getElem?_eq_none (by simpa using h)]
  simp only[Option.map_none,Option.getD_none]
  rw[List.getD_eq_getElem?_getD,List.getElem?_eq_none (by omega)]
  simp
theorem rowOf_other {fr:List Bool} {s n f m:Nat} (h:f+m≤s∨s+n≤f):rowOf (takeS fr s n) f m=rowOf fr f m:=by
 unfold rowOf
 apply List.map_congr_left
 intro i hi
 have:=List.mem_range.1 hi
 rw[takeS_get,if_neg (by omega)]
theorem rowOf_get {fr:List Bool} {f m i:Nat} (h:i<m):(rowOf fr f m)[i]?=some (fr.getD (f+i) false):=by
 simp[rowOf,h]
theorem rowOf_taken {fr:List Bool} {f m c k n:Nat} {A B:List Bool} (h:rowOf fr f m=A++(List.replicate c true++B)) (hk:k+n≤c):
 rowOf (takeS fr (f+A.length+k) n) f m=A++(List.replicate k true++(List.replicate n false++(List.replicate (c-n-k) true++B))):=by
 have hl:m=A.length+(c+B.length):=by
  have:=congrArg List.length h
  simpa[rowOf] using this
 apply List.ext_getElem?
 intro i
 by_cases hi:i<m
 ·rw[rowOf_get hi,takeS_get]
  have hg:=rowOf_get (fr:=fr) (f:=f) hi
  rw[h] at hg
  by_cases h1:i<A.length
  ·rw[if_neg (by omega),List.getElem?_append_left h1]
   rw[List.getElem?_append_left h1] at hg
   exact hg.symm
  ·rw[List.getElem?_append_right (by omega)] at hg⊢
   obtain⟨x,hx⟩:∃x,i-A.length=x:=⟨_,rfl⟩
   rw[hx] at hg⊢
   have hc:x<c→(List.replicate c true++B)[x]?=some true:=fun h=>by
    rw[List.getElem?_append_left (by simpa using h)]
    simp[h]
   by_cases h2:x<k
   ·rw[if_neg (by omega)]
    rw[hc (by omega)] at hg
    rw[←hg,List.getElem?_append_left (by simpa using h2)]
    simp[h2]
   ·rw[List.getElem?_append_right (by simp;omega)]
    by_cases h3:x<k+n
    ·rw[if_pos (by omega),List.getElem?_append_left (by simp;omega),List.getElem?_replicate,if_pos (by simp only[List.length_replicate];omega)]
    ·rw[if_neg (by omega),List.getElem?_append_right (by simp;omega)]
     by_cases h4:x<c
     ·rw[hc h4] at hg
      rw[←hg,List.getElem?_append_left (by simp;omega),List.getElem?_replicate,if_pos (by simp only[List.length_replicate];omega)]
     ·rw[List.getElem?_append_right (by simp;omega)] at hg⊢
      rw[←hg]
      congr 1
      simp
      omega
 ·rw[List.getElem?_eq_none (by simp[rowOf];omega),List.getElem?_eq_none (by simp;omega)]
def aloneR (fr:List Bool) (rows:List Int) (f k:Nat):Nat:=((List.range k).flatMap (rowRuns fr rows f)).countP (fun r=>r.many==1)
theorem aloneR_succ (fr:List Bool) (rows:List Int) (f k:Nat):aloneR fr rows f (k+1)=aloneR fr rows f k+al (rowOf fr (offR rows f k) (rows.getD k 0).toNat):=by
 unfold aloneR
 rw[List.range_succ,List.flatMap_append,List.countP_append]
 simp only[List.flatMap_cons,List.flatMap_nil,List.append_nil]
 unfold rowRuns
 rw[runsL_alone]
 simp
theorem aloneR_taken {fr:List Bool} {rows:List Int} {f j:Nat} {r:Ru} (hr:r∈rowRuns fr rows f j) {k n:Nat} (hn:1≤n) (hk:(k:Int)+n≤r.many):∀{K},j<K→
 (aloneR (takeS fr (r.first.toNat+k) n) rows f K:Int)=aloneR fr rows f K+((if k=1 then 1 else 0)+(if r.many-n-k=1 then 1 else 0)-(if r.many=1 then 1 else 0)):=by
 obtain⟨A,B,m,h1,h2,h3,h4,h5⟩:=runsL_split (Nat.zero_le _) hr
 simp only[List.replicate_zero,List.nil_append] at h1
 subst h3
 simp only[Nat.sub_zero,Int.toNat_natCast] at hk⊢
 have hlen:(rows.getD j 0).toNat=A.length+(m+B.length):=by
  have:=congrArg List.length h1
  simpa[rowOf] using this
 have hnot:∀i,i<j→rowOf (takeS fr (offR rows f j+A.length+k) n) (offR rows f i) (rows.getD i 0).toNat=rowOf fr (offR rows f i) (rows.getD i 0).toNat:=fun i hi=>rowOf_other (.inl (by
  have h6:=offR_le rows f (i:=i+1) (j:=j) (by omega)
  have h7:offR rows f (i+1)=offR rows f i+(rows.getD i 0).toNat:=rfl
  omega))
 have hnot2:∀i,j<i→rowOf (takeS fr (offR rows f j+A.length+k) n) (offR rows f i) (rows.getD i 0).toNat=rowOf fr (offR rows f i) (rows.getD i 0).toNat:=fun i hi=>rowOf_other (.inr (by
  have h6:=offR_le rows f (i:=j+1) (j:=i) (by omega)
  have h7:offR rows f (j+1)=offR rows f j+(rows.getD j 0).toNat:=rfl
  omega))
 have low:∀K,K≤j→aloneR (takeS fr (offR rows f j+A.length+k) n) rows f K=aloneR fr rows f K:=by
  intro K
  induction K with
  |zero=>intro _;rfl
  |succ K ih=>intro hK;rw[aloneR_succ,aloneR_succ,ih (by omega),hnot K (by omega)]
 intro K
 induction K with
 |zero=>intro h;omega
 |succ K ih=>
  intro hK
  rw[aloneR_succ,aloneR_succ]
  by_cases e:j=K
  ·subst e
   rw[low j (Nat.le_refl _),rowOf_taken h1 (by omega),h1]
   have ht:=al_taken h4 h5 (c:=m) (k:=k) (n:=n) hn (by omega)
   have e1:((m:Int)-n-k=1)↔(m-n-k=1):=by omega
   have e2:((m:Int)=1)↔(m=1):=by omega
   simp only[e1,e2]
   push_cast
   rw[ht]
   split<;>split<;>split<;>omega
  ·have:=ih (by omega)
   rw[hnot2 K (by omega)]
   push_cast
   omega
def aloneM (x:Ve) (fr:List Bool) (sec:Nat):Int:=((runsM x fr sec).countP (fun r=>r.many==1):Nat)
theorem runsM_flat (x:Ve) (fr:List Bool) (sec:Nat):runsM x fr sec=(List.range (x.secs.getD sec ⟨⟨#[]⟩,[],0⟩).rows.length).flatMap (rowRuns fr (x.secs.getD sec ⟨⟨#[]⟩,[],0⟩).rows (upTo x.secs sec).toNat):=by
 unfold runsM
 rw[runsTo_flat]
def firstC (c:Cho):Int:=c.run.first+c.before
theorem aloneM_taken {x:Ve} {fr:List Bool} {sec:Nat} {m:Int} (hm:1≤m) {c:Cho} (hc:c∈chos (runsM x fr sec) m):
 0≤firstC c∧aloneM x (takeS fr (firstC c).toNat m.toNat) sec=aloneM x fr sec+moreC c:=by
 unfold chos chosR at hc
 obtain⟨r,hr,hc⟩:=List.mem_flatMap.1 hc
 obtain⟨k,hk,rfl⟩:=List.mem_map.1 hc
 have hk:=List.mem_range.1 hk
 unfold cnt at hk
 have hr0:=hr
 rw[runsM_flat] at hr
 obtain⟨j,hj,hr⟩:=List.mem_flatMap.1 hr
 have hj:=List.mem_range.1 hj
 have hf:0≤r.first:=by
  obtain⟨A,B,n,_,_,h3,_,_⟩:=runsL_split (Nat.zero_le _) hr
  rw[h3]
  show(0:Int)≤((_:Nat):Int)
  omega
 obtain⟨n,rfl⟩:=Int.eq_ofNat_of_zero_le (show 0≤m by omega)
 have ht:=aloneR_taken hr (k:=k) (n:=n) (by omega) (by omega) hj
 have e:(firstC (choAt (n:Int) r k)).toNat=r.first.toNat+k:=by
  show(r.first+(k:Int)).toNat=_
  omega
 refine⟨by show 0≤r.first+(k:Int);omega, ?_⟩
 rw[e]
 unfold aloneM
 rw[runsM_flat,runsM_flat]
 unfold aloneR at ht
 simp only[Int.toNat_natCast]
 rw[ht]
 show _+_=_+(aloneV (k:Int)+aloneV (r.many-(n:Int)-(k:Int))-aloneV r.many)
 unfold aloneV
 have e1:((k:Int)=1)↔(k=1):=by omega
 simp only[e1]
def bestF (l:List (Int×Int)):Int×Int:=l.foldl (fun st e=>if st.1<0∨e.2<st.2 then e else st) (-1,0)
theorem bestF_snoc (l:List (Int×Int)) (e:Int×Int):bestF (l++[e])=if(bestF l).1<0∨e.2<(bestF l).2 then e else bestF l:=by unfold bestF;rw[List.foldl_append];rfl
theorem bestF_bestC (K:Int) (a:Int→Int):∀(n:Nat) (l:List Cho),l.length=n→(∀c∈l,0≤firstC c∧a (firstC c)=K+moreC c)→
 bestF (l.map fun c=>(firstC c,a (firstC c)))=match bestC l with|some c=>(firstC c,K+moreC c)|none=>(-1,0)
 |0,l,hl,_=>by rw[List.eq_nil_of_length_eq_zero hl];rfl
 |n+1,l,hl,h=>by
  have hne:l≠[]:=by intro e;rw[e] at hl;simp at hl
  obtain⟨b,x,rfl⟩:∃b x,l=b++[x]:=⟨l.dropLast,l.getLast hne,(List.dropLast_concat_getLast hne).symm⟩
  have ih:=bestF_bestC K a n b (by simpa using hl) fun c hc=>h c (by simp[hc])
  have hx:=h x (by simp)
  rw[List.map_append,List.map_cons,List.map_nil,bestF_snoc,ih,bestC_snoc]
  cases hb:bestC b with
  |none=>simp[bestStep,hx.2]
  |some d=>
   have hd:=h d (by simp[bestC_mem hb])
   simp only[bestStep,hx.2]
   by_cases h1:moreC x<moreC d
   ·rw[if_pos (.inr (by omega)),if_pos h1]
   ·rw[if_neg (by omega),if_neg h1]
end Go.Proofs.YtlckmjiioohcmaaGreatDoor

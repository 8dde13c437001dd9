/-
  Plain law: the record of a world of the document retells its scheduler. Conditions: as each theorem says.
-/
import Derived.Test.YtlngbdggehghgaaCyJ
namespace Go.Proofs.Ytlngbdggehghgaa
set_option linter.unusedSimpArgs false
set_option linter.unusedVariables false
structure Ev where
 tn:Tn
 given:Tk
 ret:Tk
 wait:Wa
 beg:Int
def newTs (T:List Tk) (k:Nat) (kind:Int):List Tk:=if T.length<200 then[⟨(T.length:Int)+1,kind,0,(k:Int)+1,0,0,0⟩] else[]
def newWs (T:List Tk):List Wa:=if T.length<200 then[⟨0,0,0⟩] else[]
structure EvK (ks:List (List De)) (e:Ev) (k:Nat) (T:List Tk) (W:List Wa) (T':List Tk) (W':List Wa):Prop where
 len:T.length=W.length
 task:e.tn.task=(k:Int)+1
 given:T[k]?=some e.given
 wait:W[k]?=some e.tn.wait
 kind:e.tn.wait.kind≠2
 among:1≤e.tn.among
 next:(e.beg=0∧T'=T.set k e.ret∧W'=W.set k e.wait)∨(e.beg=1∧∃d,deedAt ks e.given=some d∧0≤e.given.kind∧0≤e.given.pc∧T'=T.set k e.ret++newTs T k (d.beg%12-1)∧W'=W.set k e.wait++newWs T)
def RpOk (ks:List (List De)):List Ev→List Tk→List Wa→List Tk→List Wa→Prop
 |[],T,W,T',W'=>T=T'∧W=W'
 |e::es,T,W,T',W'=> ∃k T1 W1,EvK ks e k T W T1 W1∧RpOk ks es T1 W1 T' W'
theorem RpOk.snoc {ks:List (List De)} {e:Ev} {k:Nat} {T' T'':List Tk} {W' W'':List Wa} (he:EvK ks e k T' W' T'' W''):∀(es:List Ev) {T:List Tk} {W:List Wa},RpOk ks es T W T' W'→RpOk ks (es++[e]) T W T'' W'':=by
 intro es
 induction es with
 |nil=>
  rintro T W ⟨rfl,rfl⟩
  exact⟨k,_,_,he,rfl,rfl⟩
 |cons y es ih=>
  rintro T W ⟨j,T1,W1,h1,h2⟩
  exact⟨j,T1,W1,h1,ih h2⟩
structure RI (ks:List (List De)) (T0:List Tk) (W0:List Wa) (S:SS) (x:RW):Prop where
 es:∃es:List Ev,S.turns=es.map (·.tn)∧x.given=es.map (·.given)∧x.ret=es.map (·.ret)∧x.waits=es.map (·.wait)∧x.begun=es.map (·.beg)∧RpOk ks es T0 W0 (S.rs.map (·.task)) (S.rs.map (·.wait))
 kinds:x.kinds=ks
 tk:∀(j:Nat) (r:Ru),S.rs[j]?=some r→r.task.id=(j:Int)+1∧0≤r.task.kind∧0≤r.task.pc
theorem can_kind {S:SS} {o:Option Nat} {x:RW} {i:Nat} (hi:i∈enI S o x):∃r,S.rs[i]?=some r∧r.wait.kind≠2:=by
 obtain⟨_,r,hr,hp⟩:=plc_mem hi
 refine⟨r,hr,fun e=> ?_⟩
 unfold canS at hp
 rw[if_neg (by rw[e];decide),if_pos e] at hp
 cases hp
theorem agedL_task (L:List Nat) (i:Nat) (rs:List Ru):(agedL L i rs).map (·.task)=rs.map (·.task)∧(agedL L i rs).map (·.wait)=rs.map (·.wait):=by
 constructor
 ·apply List.ext_getElem?
  intro j
  unfold agedL
  rw[List.getElem?_map,List.getElem?_mapIdx,List.getElem?_map]
  cases rs[j]?<;>rfl
 ·apply List.ext_getElem?
  intro j
  unfold agedL
  rw[List.getElem?_map,List.getElem?_mapIdx,List.getElem?_map]
  cases rs[j]?<;>rfl
theorem begS_one (S:SS) (t:Tk):begS S [t]=if S.rs.length<200 then addS S t else S:=by rw[Co.begS_cons];rfl
theorem RI.give {v0:World} {b:Nat} {kv:Value} {ks:List (List De)} {T0:List Tk} {W0:List Wa} {S:SS} {x:RW} {L:List Nat} {i:Nat} {o:Option Nat} {y:RW} (h:RI ks T0 W0 S x) (hi:i∈enI S o y) (hL:L≠[]):
 RI ks T0 W0 (giveS (DW v0 b kv ks) S x L i).1 (giveS (DW v0 b kv ks) S x L i).2:=by
 obtain⟨⟨es,e1,e2,e3,e4,e5,hR⟩,hk,ht⟩:=h
 obtain⟨r,hr,hr2⟩:=can_kind hi
 have hil:i<S.rs.length:=(List.getElem?_eq_some_iff.1 hr).1
 obtain⟨hid,hkd,hpc⟩:=ht i r hr
 have hLl:1≤L.length:=List.length_pos_iff.2 hL
 unfold giveS
 rw[hr]
 simp only
 show RI ks T0 W0 (begS ⟨(agedL L i S.rs).set i ⟨{(stW x r.task).1 with id:=r.task.id},(stW x r.task).2.1,0⟩,S.turns++[⟨r.task.id,r.wait,L.length⟩],S.most,S.closed⟩ (stW x r.task).2.2.1) (stW x r.task).2.2.2
 simp only[stW]
 generalize hT:(⟨(agedL L i S.rs).set i ⟨{({tkW x r.task with id:= -5}:Tk) with id:=r.task.id},waW x r.task,0⟩,S.turns++[⟨r.task.id,r.wait,L.length⟩],S.most,S.closed⟩:SS)=U
 have ht1:({({tkW x r.task with id:= -5}:Tk) with id:=r.task.id}:Tk)=tkW x r.task:=by cases r.task;rfl
 rw[ht1] at hT
 have hUt:U.rs.map (·.task)=(S.rs.map (·.task)).set i (tkW x r.task):=by
  rw[←hT]
  show((agedL L i S.rs).set i _).map _=_
  rw[List.map_set,(agedL_task L i S.rs).1]
 have hUw:U.rs.map (·.wait)=(S.rs.map (·.wait)).set i (waW x r.task):=by
  rw[←hT]
  show((agedL L i S.rs).set i _).map _=_
  rw[List.map_set,(agedL_task L i S.rs).2]
 have hUl:U.rs.length=S.rs.length:=by rw[←hT];simp[agedL]
 have hUn:U.turns=S.turns++[⟨r.task.id,r.wait,L.length⟩]:=by rw[←hT]
 have hUr:∀(j:Nat) (q:Ru),U.rs[j]?=some q→q.task.id=(j:Int)+1∧0≤q.task.kind∧0≤q.task.pc:=by
  intro j q hq
  have h1:(U.rs.map (·.task))[j]?=some q.task:=by rw[List.getElem?_map,hq];rfl
  rw[hUt,List.getElem?_set] at h1
  by_cases e:i=j
  ·subst e
   rw[if_pos rfl] at h1
   split at h1
   ·rw[←Option.some.inj h1]
    exact⟨hid,hkd,by show 0≤r.task.pc+1;omega⟩
   ·cases h1
  ·rw[if_neg e,List.getElem?_map] at h1
   obtain⟨q0,h2,h3⟩:=Option.map_eq_some_iff.1 h1
   rw[←h3]
   exact ht j q0 h2
 have hlenT:(S.rs.map (·.task)).length=(S.rs.map (·.wait)).length:=by simp
 have hg:(S.rs.map (·.task))[i]?=some r.task:=by rw[List.getElem?_map,hr];rfl
 have hw:(S.rs.map (·.wait))[i]?=some r.wait:=by rw[List.getElem?_map,hr];rfl
 have hTl:(S.rs.map (·.task)).length=S.rs.length:=by simp
 have hcase:beW x r.task=[]∨∃d,deedAt ks r.task=some d∧0≤d.beg%12-1∧beW x r.task=[⟨99,d.beg%12-1,0,r.task.id,0,0,0⟩]:=by
  unfold beW
  cases hd:deedAt x.kinds r.task with
  |none=>exact .inl rfl
  |some d=>
   simp only
   unfold begW
   split
   ·rename_i hq
    exact .inr ⟨d,by rw[←hk];exact hd,hq.1,rfl⟩
   ·exact .inl rfl
 rcases hcase with hb|⟨d,hd,hd0,hb⟩
 ·rw[hb]
  refine⟨⟨es++[⟨⟨r.task.id,r.wait,L.length⟩,r.task,tkW x r.task,waW x r.task,0⟩], ?_, ?_, ?_, ?_, ?_, ?_⟩,hk,hUr⟩
  ·show U.turns=_;rw[hUn,e1];simp
  ·simp[e2]
  ·simp[e3]
  ·simp[e4]
  ·simp[e5]
  ·show RpOk ks _ T0 W0 (U.rs.map (·.task)) (U.rs.map (·.wait))
   refine RpOk.snoc (k:=i) ⟨hlenT,hid,hg,hw,hr2,by show(1:Int)≤(L.length:Int);omega,.inl ⟨rfl, ?_, ?_⟩⟩ es hR
   ·rw[hUt]
   ·rw[hUw]
 ·rw[hb,begS_one]
  by_cases hl:S.rs.length<200
  ·rw[if_pos (by rw[hUl];exact hl)]
   refine⟨⟨es++[⟨⟨r.task.id,r.wait,L.length⟩,r.task,tkW x r.task,waW x r.task,1⟩], ?_, ?_, ?_, ?_, ?_, ?_⟩,hk, ?_⟩
   ·show U.turns=_;rw[hUn,e1];simp
   ·simp[e2]
   ·simp[e3]
   ·simp[e4]
   ·simp[e5]
   ·show RpOk ks _ T0 W0 ((U.rs++[newR U.rs.length ⟨99,d.beg%12-1,0,r.task.id,0,0,0⟩]).map (·.task)) ((U.rs++[newR U.rs.length ⟨99,d.beg%12-1,0,r.task.id,0,0,0⟩]).map (·.wait))
    refine RpOk.snoc (k:=i) ⟨hlenT,hid,hg,hw,hr2,by show(1:Int)≤(L.length:Int);omega,.inr ⟨rfl,d,hd,hkd,hpc, ?_, ?_⟩⟩ es hR
    ·rw[List.map_append,hUt]
     unfold newTs
     rw[hTl,if_pos hl]
     simp[newR,hUl,hid]
    ·rw[List.map_append,hUw]
     unfold newWs
     rw[hTl,if_pos hl]
     simp[newR]
   ·intro j q hq
    have hq:(U.rs++[newR U.rs.length ⟨99,d.beg%12-1,0,r.task.id,0,0,0⟩])[j]?=some q:=hq
    by_cases hj:j<U.rs.length
    ·rw[List.getElem?_append_left hj] at hq
     exact hUr j q hq
    ·rw[List.getElem?_append_right (by omega)] at hq
     have e:j-U.rs.length=0:=by
      have:=(List.getElem?_eq_some_iff.1 hq).1
      simp at this;omega
     rw[e] at hq
     obtain rfl:=Option.some.inj hq
     refine⟨?_,hd0,Int.le_refl _⟩
     show(U.rs.length:Int)+1=(j:Int)+1
     omega
  ·rw[if_neg (by rw[hUl];exact hl)]
   refine⟨⟨es++[⟨⟨r.task.id,r.wait,L.length⟩,r.task,tkW x r.task,waW x r.task,1⟩], ?_, ?_, ?_, ?_, ?_, ?_⟩,hk,hUr⟩
   ·show U.turns=_;rw[hUn,e1];simp
   ·simp[e2]
   ·simp[e3]
   ·simp[e4]
   ·simp[e5]
   ·show RpOk ks _ T0 W0 (U.rs.map (·.task)) (U.rs.map (·.wait))
    refine RpOk.snoc (k:=i) ⟨hlenT,hid,hg,hw,hr2,by show(1:Int)≤(L.length:Int);omega,.inr ⟨rfl,d,hd,hkd,hpc, ?_, ?_⟩⟩ es hR
    ·rw[hUt];unfold newTs;rw[hTl,if_neg hl];simp
    ·rw[hUw];unfold newWs;rw[hTl,if_neg hl];simp
namespace Co
theorem RI.pick {v0:World} {b:Nat} {kv:Value} {ks:List (List De)} {T0:List Tk} {W0:List Wa} {S:SS} {x:RW} {k:Int} (h:RI ks T0 W0 S x):RI ks T0 W0 (pickS (DW v0 b kv ks) S x k).1 (pickS (DW v0 b kv ks) S x k).2:=by
 unfold pickS
 split
 ·rename_i he
  have hne:enI S (DW v0 b kv ks).o x≠[]:=fun e=>by
   unfold pickE nextS at he
   rw[e] at he
   split at he
   ·cases he
   ·split at he<;>simp at he
  have hl:0<(enI S (DW v0 b kv ks).o x).length:=List.length_pos_iff.2 hne
  refine RI.give h (o:=(DW v0 b kv ks).o) (y:=x) ?_ hne
  unfold pickI
  generalize enI S (DW v0 b kv ks).o x=E at hl⊢
  have h1:0≤k%(E.length:Int):=Int.emod_nonneg _ (by omega)
  have h2:k%(E.length:Int)<E.length:=Int.emod_lt_of_pos _ (by omega)
  rw[List.getD_eq_getElem?_getD,List.getElem?_eq_getElem (by omega)]
  exact List.getElem_mem _
 ·exact h
theorem RI.picks {v0:World} {b:Nat} {kv:Value} {ks:List (List De)} {T0:List Tk} {W0:List Wa} (pk:List Int):∀{S:SS} {x:RW},RI ks T0 W0 S x→RI ks T0 W0 (pksS (DW v0 b kv ks) pk S x).1 (pksS (DW v0 b kv ks) pk S x).2:=by
 induction pk with
 |nil=>exact fun h=>h
 |cons k pk ih=>exact fun h=>ih (RI.pick h)
def numT (l:List Tk):List Tk:=l.mapIdx fun i t=>{t with id:=(i:Int)+1}
theorem begS_rs (l:List Tk):∀S:SS,S.rs.length+l.length≤200→(begS S l).rs=S.rs++l.mapIdx fun i t=>newR (S.rs.length+i) t:=by
 induction l with
 |nil=>intro S _;simp[begS]
 |cons t l ih=>
  intro S h
  rw[begS_cons,if_pos (by simp at h;omega),ih _ (by simp[addS] at h⊢;omega)]
  simp only[addS,List.append_assoc,List.singleton_append,List.length_append,List.length_singleton,List.mapIdx_cons,Nat.add_zero]
  congr 2
  apply List.ext_getElem?
  intro j
  rw[List.getElem?_mapIdx,List.getElem?_mapIdx,show S.rs.length+1+j=S.rs.length+(j+1) by omega]
theorem RI.start {p:Pn} (hk:p.ks≠[]) (hl:(firstS p).length≤200):RI p.ks (numT (firstS p)) (List.replicate (firstS p).length ⟨0,0,0⟩) (begS (S0 p.most) (firstS p)) (rw0 p.ks):=by
 have hr:=begS_rs (firstS p) (S0 p.most) (by simpa[S0] using hl)
 have hn:0<p.ks.length:=List.length_pos_iff.2 hk
 refine⟨⟨[], ?_,rfl,rfl,rfl,rfl, ?_, ?_⟩,rfl,fun j r hj=> ?_⟩
 ·exact(begS_closed _ _).2.2
 ·rw[hr]
  unfold numT
  apply List.ext_getElem?
  intro j
  simp only[S0,List.nil_append,List.length_nil,Nat.zero_add,List.getElem?_map,List.getElem?_mapIdx]
  cases(firstS p)[j]?<;>rfl
 ·rw[hr]
  apply List.ext_getElem?
  intro j
  simp only[S0,List.nil_append,List.length_nil,Nat.zero_add,List.getElem?_map,List.getElem?_mapIdx]
  by_cases hj:j<(firstS p).length
  ·rw[List.getElem?_eq_getElem hj,List.getElem?_replicate,if_pos hj];rfl
  ·rw[show(firstS p)[j]?=none from List.getElem?_eq_none (by omega),List.getElem?_replicate,if_neg hj];rfl
 ·rw[hr] at hj
  simp only[S0,List.nil_append,List.length_nil,Nat.zero_add,List.getElem?_mapIdx] at hj
  obtain⟨t,ht,rfl⟩:=Option.map_eq_some_iff.1 hj
  unfold firstS at ht
  rw[if_neg hk] at ht
  obtain⟨f,hfm,rfl⟩:=List.mem_map.1 (List.mem_of_getElem? ht)
  exact⟨rfl,Int.emod_nonneg _ (by omega),Int.le_refl _⟩
end Co
end Go.Proofs.Ytlngbdggehghgaa

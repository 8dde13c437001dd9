/-
  Plain laws of layers 15 and 19: where a seat lies; a best choice lies in one row, and its seats are free. Conditions: as each theorem says.
-/
import Derived.Test.YtlckmjiioohcmaaGreatDoorPlMw
namespace Go.Proofs.YtlckmjiioohcmaaGreatDoor
open Go.RowKit
def RunAt (fr:List Bool) (rows:List Int) (f:Int) (r:Ru):Prop:=∃(j:Nat) (n:Int),rows[j]?=some n∧r.row=(j:Int)∧f+sum (rows.take j)≤r.first∧r.first+r.many≤f+sum (rows.take j)+n∧∀t:Nat,r.first≤(t:Int)→(t:Int)<r.first+r.many→fr.getD t false=true
theorem runRow_free (fr:List Bool) (row:Int) (f n:Nat) (out:List Ru):∀k,k≤n+1→(∀r∈(runRow fr row f n out k).1,r∈out∨(r.row=row∧(f:Int)≤r.first∧r.first+r.many≤f+n∧∀t:Nat,r.first≤(t:Int)→(t:Int)<r.first+r.many→fr.getD t false=true))∧
 (runRow fr row f n out k).2.row=row∧(f:Int)≤(runRow fr row f n out k).2.first∧(runRow fr row f n out k).2.first+(runRow fr row f n out k).2.many=f+k∧((runRow fr row f n out k).2.many≠0→(runRow fr row f n out k).2.first+(runRow fr row f n out k).2.many≤f+n)∧
 ∀t:Nat,(runRow fr row f n out k).2.first≤(t:Int)→(t:Int)<(runRow fr row f n out k).2.first+(runRow fr row f n out k).2.many→fr.getD t false=true
 |0,_=>⟨fun r hr=> .inl hr,rfl,by simp[runRow],by simp[runRow],by simp[runRow],by simp[runRow];omega⟩
 |k+1,hk=>by
  obtain⟨h1,h0,h2,h3,h5,h4⟩:=runRow_free fr row f n out k (by omega)
  simp only[runRow,runStep]
  split
  ·rename_i hb
   simp only[Bool.and_eq_true,decide_eq_true_eq] at hb
   refine⟨h1,h0,h2,by dsimp only;omega,fun _=>by dsimp only;omega,fun t ht1 ht2=> ?_⟩
   dsimp only at ht1 ht2
   by_cases e:(t:Int)<(runRow fr row f n out k).2.first+(runRow fr row f n out k).2.many
   ·exact h4 t ht1 e
   ·obtain rfl:t=f+k:=by omega
    exact hb.2
  ·refine⟨fun r hr=> ?_,rfl,by dsimp only;omega,by dsimp only;omega,fun h=>absurd rfl h,fun t ht1 ht2=>by dsimp only at ht1 ht2;omega⟩
   dsimp only at hr
   split at hr
   ·rename_i hp
    rcases List.mem_append.1 hr with hr|hr
    ·exact h1 r hr
    ·rw[List.mem_singleton.1 hr]
     exact .inr ⟨h0,h2,h5 (by omega),h4⟩
   ·exact h1 r hr
theorem runsTo_free (fr:List Bool) (rows:List Int) (f:Nat) (hr:∀n,n∈rows→1≤n∧n≤64):∀k,k≤rows.length→∀r∈(runsTo fr rows f k).1,RunAt fr rows f r
 |0,_,r,h=>by simp[runsTo] at h
 |k+1,hk,r,h=>by
  have ih:=runsTo_free fr rows f hr k (by omega)
  have h2:=(runsTo_ok fr rows f hr k (by omega)).2
  have h4:=(runRow_free fr (k:Int) (runsTo fr rows f k).2 (rows.getD k 0).toNat (runsTo fr rows f k).1 ((rows.getD k 0).toNat+1) (Nat.le_refl _)).1
  simp only[runsTo] at h
  rcases h4 r h with h5|⟨h5,h6,h7,h8⟩
  ·exact ih r h5
  ·have hg:rows[k]?=some rows[k]:=List.getElem?_eq_getElem (by omega)
   have hd:rows.getD k 0=rows[k]:=by rw[List.getD_eq_getElem?_getD,hg];rfl
   have hp:=hr rows[k] (List.getElem_mem _)
   rw[hd] at h7
   exact⟨k,rows[k],hg,h5,by omega,by omega,h8⟩
theorem rowsOf_find {i seat:Int}:∀(l:List Int) (k f:Int) (j:Nat) (n:Int),(∀n,n∈l→1≤n∧n≤64)→0≤f→f+sum l≤4096→l[j]?=some n→f+sum (l.take j)≤seat→seat<f+sum (l.take j)+n→
 (rowsOf i l k f).find? (hit seat)=some ⟨i,k+j,f+sum (l.take j),n⟩
 |[],_,_,_,_,_,_,_,h,_,_=>by simp at h
 |m::l,k,f,j,n,hr,h0,h1,hj,ha,hb=>by
  have hm:=hr m (by simp)
  have hs:0≤sum l:=sum_nonneg fun x hx=>by have:=hr x (by simp[hx]);omega
  have e1:sum (m::l)=m+sum l:=rfl
  rw[e1] at h1
  unfold rowsOf
  cases j with
  |zero=>
   simp only[List.getElem?_cons_zero,Option.some.injEq] at hj
   subst hj
   simp only[List.take_zero,sum] at ha hb
   rw[List.find?_cons_of_pos (by simp only[hit,Bool.and_eq_true,decide_eq_true_eq];rw[wrap64_in (by omega)];omega)]
   simp[sum]
  |succ j=>
   simp only[List.getElem?_cons_succ] at hj
   have e2:sum ((m::l).take (j+1))=m+sum (l.take j):=rfl
   have hst:0≤sum (l.take j):=sum_nonneg fun x hx=>by have:=hr x (by simp[List.mem_of_mem_take hx]);omega
   rw[e2] at ha hb
   rw[List.find?_cons_of_neg (by simp only[hit,Bool.and_eq_true,decide_eq_true_eq];rw[wrap64_in (by omega)];omega)]
   rw[rowsOf_find l (k+1) (f+m) j n (fun x hx=>hr x (by simp[hx])) (by omega) (by omega) hj (by omega) (by omega),e2]
   congr 2
   ·rw[Int.natCast_succ];omega
   ·omega
theorem rws_find {seat:Int}:∀(secs:List Sec) (i:Nat) (f:Int) (c j:Nat) (x:Sec) (n:Int),(∀x,x∈secs→∀n,n∈x.rows→1≤n∧n≤64)→0≤f→f+sum (secs.flatMap (·.rows))≤4096→secs[c]?=some x→x.rows[j]?=some n→
 f+sum ((secs.take c).flatMap (·.rows))+sum (x.rows.take j)≤seat→seat<f+sum ((secs.take c).flatMap (·.rows))+sum (x.rows.take j)+n→
 (rws secs i f).find? (hit seat)=some ⟨((i+c:Nat):Int),j,f+sum ((secs.take c).flatMap (·.rows))+sum (x.rows.take j),n⟩
 |[],_,_,_,_,_,_,_,_,_,h,_,_,_=>by simp at h
 |s::l,i,f,c,j,x,n,hr,h0,h1,hc,hj,ha,hb=>by
  rw[List.flatMap_cons,sum_append] at h1
  have hl:∀x,x∈l→∀n,n∈x.rows→1≤n∧n≤64:=fun x hx=>hr x (by simp[hx])
  have hs0:0≤sum s.rows:=sum_nonneg fun m hm=>by have:=hr s (by simp) m hm;omega
  have hs:0≤sum (l.flatMap (·.rows)):=sum_nonneg fun m hm=>by
   obtain⟨x,hx,hm⟩:=List.mem_flatMap.1 hm
   have:=hl x hx m hm;omega
  unfold rws
  rw[List.find?_append]
  cases c with
  |zero=>
   simp only[List.getElem?_cons_zero,Option.some.injEq] at hc
   subst hc
   simp only[List.take_zero,List.flatMap_nil,sum,Int.add_zero] at ha hb
   rw[rowsOf_find s.rows 0 f j n (hr s (by simp)) h0 (by omega) hj ha hb]
   simp[sum]
  |succ c=>
   simp only[List.getElem?_cons_succ] at hc
   have e2:sum (((s::l).take (c+1)).flatMap (·.rows))=sum s.rows+sum ((l.take c).flatMap (·.rows)):=by rw[List.take_succ_cons,List.flatMap_cons,sum_append]
   have hst:0≤sum ((l.take c).flatMap (·.rows)):=sum_nonneg fun m hm=>by
    obtain⟨x,hx,hm⟩:=List.mem_flatMap.1 hm
    have:=hl x (List.mem_of_mem_take hx) m hm;omega
   have hsr:0≤sum (x.rows.take j):=sum_nonneg fun m hm=>by
    have:=hl x (List.mem_of_getElem? hc) m (List.mem_of_mem_take hm);omega
   rw[e2] at ha hb
   rw[(find_rowsOf (i:=(i:Int)) (seat:=seat) s.rows 0 f (hr s (by simp)) h0 (by omega) (by omega)).2 (by omega)]
   rw[Option.none_or,show(i:Int)+1=((i+1:Nat):Int) from rfl,rws_find (seat:=seat) l (i+1) (f+sum s.rows) c j x n hl (by omega) (by omega) hc hj (by omega) (by omega),e2,show i+1+c=i+(c+1) by omega,show f+sum s.rows+sum ((l.take c).flatMap (·.rows))=f+(sum s.rows+sum ((l.take c).flatMap (·.rows))) by omega]
theorem adBest_row {x:Ve} {fr:List Bool} {sec m:Int} (h:(adBestM x fr sec m).2=0):(1≤m∧m≤8)∧0≤(adBestM x fr sec m).1∧(adBestM x fr sec m).1+m≤fr.length∧(∀t:Nat,(adBestM x fr sec m).1≤(t:Int)→(t:Int)<(adBestM x fr sec m).1+m→fr.getD t false=true)∧
 ∃(c j:Nat) (s:Sec) (n b:Int),sec=(c:Int)∧x.secs[c]?=some s∧s.rows[j]?=some n∧placeV x (adBestM x fr sec m).1=(⟨sec,(j:Int),b⟩,0)∧0≤b∧b+m≤n:=by
 obtain⟨hm,hf0,hf1⟩:=adBestM_ok h
 refine⟨hm,hf0,hf1, ?_⟩
 clear hf0 hf1
 unfold adBestM at h⊢
 split at h
 ·rename_i h1;exact absurd h h1
 rename_i h1
 rw[if_neg h1]
 obtain⟨hc,hl,hs0,hs1⟩:=adCheckM_ok (Decidable.not_not.1 h1)
 split at h
 ·cases h
 rename_i h2
 rw[if_neg h2]
 split at h
 ·rename_i c hb
  obtain⟨hd1,k,hd2,hd3,_⟩:=mem_chos (bestC_mem hb)
  obtain⟨sec,rfl⟩:∃n:Nat,sec=(n:Int):=⟨sec.toNat,by omega⟩
  simp only[Int.toNat_natCast] at hd1
  have hlt:sec<x.secs.length:=by omega
  have hg:x.secs[sec]?=some x.secs[sec]:=List.getElem?_eq_getElem hlt
  obtain⟨hf1,hf2⟩:=rows_fit hc hlt
  have hse:=secE_ok ((checkV_ok hc).1.2 sec hlt)
  have hin:=runsTo_free fr x.secs[sec].rows (upTo x.secs sec).toNat hse.2.1 x.secs[sec].rows.length (Nat.le_refl _) c.run (by simpa[runsM,hlt] using hd1)
  obtain⟨j,n,hj,hrow,ha,hb2,hfree⟩:=hin
  have hsum:sum (allRows x)≤4096:=(checkV_ok hc).2.1
  rw[show((upTo x.secs sec).toNat:Int)=upTo x.secs sec by omega] at ha hb2
  have hrr:∀y,y∈x.secs→∀n,n∈y.rows→1≤n∧n≤64:=fun y hy n hn=>by
   obtain⟨q,hq,rfl⟩:=List.getElem_of_mem hy
   exact(secE_ok ((checkV_ok hc).1.2 q hq)).2.1 n hn
  have hfind:=rws_find (seat:=c.run.first+c.before) x.secs 0 0 sec j x.secs[sec] n hrr (Int.le_refl _) (by unfold allRows at hsum;omega) hg hj (by unfold upTo at ha;rw[hd2];omega) (by unfold upTo at hb2;rw[hd2];omega)
  rw[Nat.zero_add,Int.natCast_zero,Int.zero_add] at hfind
  have hF:findV x (c.run.first+c.before)=(⟨(sec:Int),(j:Int),upTo x.secs sec+sum (x.secs[sec].rows.take j),n⟩,0):=by
   unfold findV
   rw[if_neg (by omega),hfind]
   simp[upTo]
  refine⟨fun t ht1 ht2=>hfree t (by dsimp only at ht1;omega) (by dsimp only at ht2;omega),sec,j,x.secs[sec],n,c.run.first+c.before-(upTo x.secs sec+sum (x.secs[sec].rows.take j)),rfl,hg,hj, ?_,by omega,by omega⟩
  dsimp only
  unfold placeV
  rw[hF]
  simp
 ·cases h
end Go.Proofs.YtlckmjiioohcmaaGreatDoor

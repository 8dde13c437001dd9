/-
  Walk of slices' symMergeCmpFunc at ints: where both halves hold more than one number. Conditions: as the theorem says.
  SymMerge at ints, whole; lists sorted in blocks. Conditions: as the theorems say.
  Walk of slices' stableCmpFunc at ints. Conditions: as the theorem says.
  Walk of slices.SortStableFunc at ints. Conditions: as the theorems say.
-/
import Derived.Test.YtlckmjiioohcmaaGreatDoorSoD
namespace Go.Proofs.YtlckmjiioohcmaaGreatDoor
open Go.RowKit
theorem sym_join {key:Int→Int} {L R M1 M2:List Int} {s t:Nat} (hL:Asc key L) (hR:Asc key R) (h:(∀x∈L.take s,∀y∈R.drop t,lexlt key x y)∧∀y∈R.take t,∀x∈L.drop s,lexlt key y x)
 (p1:M1.Perm (L.take s++R.take t)) (a1:Asc key M1) (p2:M2.Perm (L.drop s++R.drop t)) (a2:Asc key M2):(M1++M2).Perm (L++R)∧Asc key (M1++M2):=by
 refine⟨(p1.append p2).trans ?_,asc_append a1 a2 fun x hx y hy=> ?_⟩
 ·have h1:(L.take s++R.take t++(L.drop s++R.drop t)).Perm (L.take s++(L.drop s++(R.take t++R.drop t))):=by
   rw[List.append_assoc]
   refine List.Perm.append_left _ ?_
   rw[←List.append_assoc,←List.append_assoc]
   exact List.Perm.append_right _ List.perm_append_comm
  rw[List.take_append_drop,←List.append_assoc (L.take s),List.take_append_drop] at h1
  exact h1
 ·have hx:=p1.mem_iff.1 hx
  have hy:=p2.mem_iff.1 hy
  have dl:∀x∈L.take s,∀y∈L.drop s,lexlt key x y:=by
   have:=hL
   unfold Asc at this
   rw[←List.take_append_drop s L] at this
   exact(List.pairwise_append.1 this).2.2
  have dr:∀x∈R.take t,∀y∈R.drop t,lexlt key x y:=by
   have:=hR
   unfold Asc at this
   rw[←List.take_append_drop t R] at this
   exact(List.pairwise_append.1 this).2.2
  rcases List.mem_append.1 hx with hx|hx<;>rcases List.mem_append.1 hy with hy|hy
  ·exact dl x hx y hy
  ·exact h.1 x hx y hy
  ·exact h.2 x hx y hy
  ·exact dr x hx y hy
theorem asc_one {key:Int→Int} {A B:List Int} (hA:Asc key A) (hB:Asc key B) (h:A=[]∨B=[]):Asc key (A++B):=by
 rcases h with rfl|rfl
 ·simpa using hB
 ·simpa using hA
theorem cut4 (P L R S:List Int) (v t:Nat):P++L++R++S=P++L.take v++L.drop v++R.take t++(R.drop t++S):=by
 have h1:=List.take_append_drop v L
 have h2:=List.take_append_drop t R
 calc P++L++R++S=P++(L.take v++L.drop v)++(R.take t++R.drop t)++S:=by rw[h1,h2]
  _=_:=by simp only[List.append_assoc]
theorem cut4_same {P L R S:List Int} {v t:Nat} (h:L.drop v=[]∨R.take t=[]):P++L++R++S=P++(L.take v++R.take t)++(L.drop v++R.drop t)++S:=by
 rw[cut4 P L R S v t]
 rcases h with h|h<;>rw[h]<;>simp only[List.append_assoc,List.nil_append,List.append_nil]
def SymOk (B g cap n:Nat) (fid:FuncId) (lb:Array Value) (key:Int→Int) (N:Nat):Prop:=
 ∀(a m b:Nat) (P L R S:List Int) (w:World),CmpOk w g fid lb key (L++R)→Own intR 3 B w (.slice (some ⟨g,0,none⟩) n cap) (P++L++R++S)→n=(P++L++R++S).length→a=P.length→m=a+L.length→b=m+R.length→
  Asc key L→Asc key R→(∀x∈L,∀y∈R,x<y)→0<L.length→0<R.length→L.length+R.length<N→
  Calls Tryz.prog 200 #[.slice (some ⟨g,0,none⟩) n cap,.int .i64 (a:Int),.int .i64 (m:Int),.int .i64 (b:Int),.func (.func fid) #[] lb] w fun e w'=>
   e=.returned (.tuple #[])∧(∃M,M.Perm (L++R)∧Asc key M∧Own intR 3 B w' (.slice (some ⟨g,0,none⟩) n cap) (P++M++S))∧w.grownBy w' (some g)
set_option maxRecDepth 20000 in
set_option maxHeartbeats 4000000 in
theorem sym_step {B g cap n a m b:Nat} {P L R S:List Int} {w:World} {fid:FuncId} {lb:Array Value} {key:Int→Int} (hc:CmpOk w g fid lb key (L++R)) (ho:Own intR 3 B w (.slice (some ⟨g,0,none⟩) n cap) (P++L++R++S)) (en:n=(P++L++R++S).length) (hn:n≤1000000)
 (ea:a=P.length) (em:m=a+L.length) (eb:b=m+R.length) (hL:Asc key L) (hR:Asc key R) (hx:∀x∈L,∀y∈R,x<y) (hl:1<L.length) (hr:1<R.length) (ih:SymOk B g cap n fid lb key (L.length+R.length)):
 Calls Tryz.prog 200 #[.slice (some ⟨g,0,none⟩) n cap,.int .i64 (a:Int),.int .i64 (m:Int),.int .i64 (b:Int),.func (.func fid) #[] lb] w fun e w'=>
  e=.returned (.tuple #[])∧(∃M,M.Perm (L++R)∧Asc key M∧Own intR 3 B w' (.slice (some ⟨g,0,none⟩) n cap) (P++M++S))∧w.grownBy w' (some g):=by
 have hbn:b≤n:=by
  rw[en,eb,em,ea]
  simp only[List.length_append]
  omega
 have ham:a+1<m:=by omega
 have hmb:m+1<b:=by omega
 have HO:=Lib.hid ho
 have HEN:=Lib.hid (And.intro en (And.intro ea (And.intro em eb)))
 have HC:=Lib.hid hc
 have HR:=Lib.hid (And.intro hL (And.intro hR hx))
 have IH:=Lib.hid ih
 have n0:IntKind.i64.wrap ((m:Int)-(a:Int))=(m:Int)-(a:Int):=IntWalk.i64_in _ (by omega)
 have n00:decide ((m:Int)-(a:Int)=1)=false:=by simp;omega
 have n1:IntKind.i64.wrap ((b:Int)-(m:Int))=(b:Int)-(m:Int):=IntWalk.i64_in _ (by omega)
 have n10:decide ((b:Int)-(m:Int)=1)=false:=by simp;omega
 have eg:=hc.1
 have k1:IntKind.i64.wrap ((a:Int)+(b:Int))=(a:Int)+(b:Int):=IntWalk.i64_in _ (by omega)
 have k2:IntKind.u64.wrap ((a:Int)+(b:Int))=(a:Int)+(b:Int):=IntWalk.u64_in _ (by omega)
 have k3:IntKind.i64.wrap (((a:Int)+(b:Int))/2)=(((a+b)/2:Nat):Int):=by rw[IntWalk.i64_in _ (by omega)];omega
 have hmid:a<(a+b)/2∧(a+b)/2<b∧(a+b)/2+(a+b)/2≤a+b∧a+b≤(a+b)/2+(a+b)/2+1:=by omega
 generalize(a+b)/2=mid at k3 hmid
 obtain⟨q,hq⟩:∃q,mid=a+q:=⟨mid-a,by omega⟩
 have HQ:=Lib.hid hq
 have HLEN:=Lib.hid (And.intro (show m=a+L.length by omega) (show b=m+R.length by omega))
 have k4:IntKind.i64.wrap ((mid:Int)+(m:Int))=(mid:Int)+(m:Int):=IntWalk.i64_in _ (by omega)
 have k5:IntKind.i64.wrap ((mid:Int)+(m:Int)-(b:Int))=(mid:Int)+(m:Int)-(b:Int):=IntWalk.i64_in _ (by omega)
 have k6:IntKind.i64.wrap ((mid:Int)+(m:Int)-1)=(mid:Int)+(m:Int)-1:=IntWalk.i64_in _ (by omega)
 clear ho en ea eb em hc hL hR hx ih hl hr hq
 go_enter Tryz.func200,Tryz.ntmps200
 go_upto_if 140 with fail
 go_cut [20,21] from 25 (fun v20 v21 W=> ∃lo hi:Nat,v20=.int .i64 ((a+lo:Nat):Int)∧v21=.int .i64 ((a+hi:Nat):Int)∧W=w∧lo≤hi∧hi≤q∧hi≤L.length∧q-lo≤R.length∧Hid ((lo=0∧q≤R.length∨lo+R.length=q)∧(hi=q∧q≤L.length∨hi=L.length)))
 case first=>as_aux_lemma=>
  by_cases hm:mid<m
  ·have t:decide ((mid:Int)<(m:Int))=true:=by simp;omega
   go_wp2_with fail
   go_meet
   case rel=>
    have hm1:=HLEN.out.1
    have hm2:=HLEN.out.2
    have hm3:=HQ.out
    exact⟨q-R.length,q,by go_num,by go_num,rfl,by omega,by omega,by omega,by omega,.inr (by omega),.inl (by omega)⟩
  ·have t:decide ((mid:Int)<(m:Int))=false:=by simp;omega
   go_wp2_with fail
   go_meet
   case rel=>
    have hm1:=HLEN.out.1
    have hm2:=HLEN.out.2
    have hm3:=HQ.out
    exact⟨0,L.length,by go_num,by go_num,rfl,by omega,by omega,by omega,by omega,.inl (by omega),.inr rfl⟩
 case rest=>
  obtain⟨lo,hi,rfl,rfl,rfl,hlh,hhq,hhL,hlR,hcc⟩:=hcut
  rename World=>w1
  have HCC:=Lib.hid hcc
  clear hcc n0 n00 n1 n10
  go_wp2_with fail
  go_loopw [20,21] (fun i j wr=> ∃(u v:Nat),i=.int .i64 ((a+u:Nat):Int)∧j=.int .i64 ((a+v:Nat):Int)∧lo≤u∧u≤v∧v≤hi∧Hid ((∀k,lo≤k→k<u→(h:k<L.length)→(h':q-1-k<R.length)→¬key R[q-1-k]<key L[k])∧(∀k,v≤k→k<hi→(h:k<L.length)→(h':q-1-k<R.length)→key R[q-1-k]<key L[k])∧Own intR 3 B wr (.slice (some ⟨g,0,none⟩) n cap) (P++L++R++S)∧w1.grownBy wr (some g))) (fun i j _=>(intOf j-intOf i).toNat)
  case atStart=>
   refine⟨lo,hi,rfl,rfl,Nat.le_refl _,hlh,Nat.le_refl _, ?_, ?_,HO.out,World.grownBy.refl _ _⟩
   ·intro k _ h
    omega
   ·intro k h1 h2
    omega
  case round=>
   obtain⟨u,v,rfl,rfl,hmu,huv,hvb,hr⟩:=hrel
   have HQ2:=Lib.hid hr
   clear hr
   simp only[Int.natCast_add]
   by_cases huv1:u<v
   ·as_aux_lemma=>
    have ht:decide ((a:Int)+(u:Int)<(a:Int)+(v:Int))=true:=by simp;omega
    have hq:=HQ.out
    have hmL:=HLEN.out.1
    have hmR:=HLEN.out.2
    obtain⟨h,hh⟩:∃h,h+a=(a+u+(a+v))/2:=⟨(a+u+(a+v))/2-a,by omega⟩
    have hh2:u≤h∧h<v:=by omega
    obtain⟨ph,hph⟩:∃p,p=a+h:=⟨_,rfl⟩
    have k7:IntKind.i64.wrap ((a:Int)+(u:Int)+((a:Int)+(v:Int)))=(a:Int)+(u:Int)+((a:Int)+(v:Int)):=IntWalk.i64_in _ (by omega)
    have k8:IntKind.u64.wrap ((a:Int)+(u:Int)+((a:Int)+(v:Int)))=(a:Int)+(u:Int)+((a:Int)+(v:Int)):=IntWalk.u64_in _ (by omega)
    have k9:IntKind.i64.wrap (((a:Int)+(u:Int)+((a:Int)+(v:Int)))/2)=(ph:Int):=by rw[IntWalk.i64_in _ (by omega)];omega
    obtain⟨z,hz⟩:∃z,z=q-1-h:=⟨_,rfl⟩
    obtain⟨pz,hpz⟩:∃p,p=m+z:=⟨_,rfl⟩
    have k10:IntKind.i64.wrap ((mid:Int)+(m:Int)-1-(ph:Int))=(pz:Int):=by rw[IntWalk.i64_in _ (by omega)];omega
    have hkL:h<L.length:=by omega
    have hkR:z<R.length:=by omega
    have HZ:=Lib.hid hz
    have HPZ:=Lib.hid hpz
    have HPH:=Lib.hid hph
    have n2:(pz:Int)<(n:Int):=by omega
    have n3:(ph:Int)<(n:Int):=by omega
    have n8:IntKind.i64.wrap ((ph:Int)+1)=(ph:Int)+1:=IntWalk.i64_in _ (by omega)
    clear hh hq hmL hmR hz hpz hph
    go_upto_region 35 with fail
    have eRl:(R.take z).length=z:=by rw[List.length_take];omega
    have eLl:(L.take h).length=h:=by rw[List.length_take];omega
    have c1:wr.cell? ⟨g,pz,none⟩=some (.int .i64 R[z]):=by
     refine HQ2.out.2.2.1.cellI (X:=P++L++R.take z) (Y:=R.drop (z+1)++S) ?_ ?_
     ·rw[List.append_assoc (P++L) R S,split_at hkR S,←List.append_assoc]
     ·have:=HEN.out.2.1
      have:=HEN.out.2.2.1
      have:=HPZ.out
      simp only[List.length_append,eRl]
      omega
    have c2:wr.cell? ⟨g,ph,none⟩=some (.int .i64 L[h]):=by
     refine HQ2.out.2.2.1.cellI (X:=P++L.take h) (Y:=L.drop (h+1)++(R++S)) ?_ ?_
     ·rw[List.append_assoc (P++L) R S,List.append_assoc P L,split_at hkL (R++S),←List.append_assoc]
     ·have:=HEN.out.2.1
      have:=HPH.out
      simp only[List.length_append,eLl]
      omega
    have g1:=gro_cell c1
    have g2:=gro_cell c2
    have CC:=Lib.hid (fun X (hb:Below wr.heap.size wr X)=>(HC.out.later HQ2.out.2.2.2).2 X R[z] L[h] (below_grownBy hb _) (by simp) (by simp))
    have HCM:=Lib.hid (cmpI_neg (key R[z]) (key L[h]))
    clear eRl eLl c1 c2
    generalize cmpI (key R[z]) (key L[h])=cv at CC HCM
    obtain⟨y,hy⟩:∃y,y=L[h]:=⟨_,rfl⟩
    obtain⟨x,hx⟩:∃x,x=R[z]:=⟨_,rfl⟩
    rw[←hy] at g2 CC HCM
    rw[←hx] at g1 CC HCM
    have HY:=Lib.hid hy
    have HX:=Lib.hid hx
    clear hy hx
    clear k1 k2 k3 k4 k5 k6 k7 k8 k9 ht
    refine wp_region_gro (by kernel_rfl) (by kernel_rfl) ?_
    repeat(go_big_quiet_step (first|(refine Calls.gro_of (CC.out _ (gro_below _ _)))|fail))
    refine wpQuiet_nil ?_
    rintro _ ⟨p,rfl⟩
    have hg:=gro_below wr p
    generalize gro wr p=w2 at hg⊢
    have HO2:=Lib.hid (And.intro (HQ2.out.2.2.1.up hg) (grownBy_trans HQ2.out.2.2.2 (below_grownBy hg (some g))))
    clear g1 g2 hg CC
    by_cases hkey:key x<key y
    ·have tc:decide (cv<0)=true:=by rw[HCM.out];simpa using hkey
     simp only[tc]
     go_wp2_with fail
     have hph:=HPH.out
     refine⟨⟨u,h,by go_num,by go_num,hmu,by omega,by omega,HQ2.out.1, ?_,HO2.out.1,HO2.out.2⟩,by simp[intOf];omega⟩
     intro k hk1 hk2 hk3 hk4
     have e1:=asc_key HR.out.1 hk3 hk1
     have e2:=asc_key HR.out.2.1 hkR (i:=q-1-k) (by have:=HZ.out;omega)
     rw[←HY.out] at e1
     rw[←HX.out] at e2
     omega
    ·have tc:decide (cv<0)=false:=by rw[HCM.out];simpa using hkey
     simp only[tc]
     go_wp2_with fail
     have hph:=HPH.out
     refine⟨⟨h+1,v,by go_num,by go_num,by omega,by omega,hvb, ?_,HQ2.out.2.1,HO2.out.1,HO2.out.2⟩,by simp[intOf];omega⟩
     intro k hk1 hk2 hk3 hk4
     have e1:=asc_key HR.out.1 hkL (i:=k) (by omega)
     have e2:=asc_key HR.out.2.1 hk4 (i:=z) (by have:=HZ.out;omega)
     rw[←HY.out] at e1
     rw[←HX.out] at e2
     omega
   ·obtain rfl:v=u:=by omega
    have ht:decide ((a:Int)+(v:Int)<(a:Int)+(v:Int))=false:=by simp
    have hspl:=sym_split HR.out.1 HR.out.2.1 HR.out.2.2 HCC.out.1 HCC.out.2 hmu hvb (by omega) HQ2.out.1 HQ2.out.2.1
    have HS:=Lib.hid hspl
    clear hspl
    have hq:=HQ.out
    have hmL:=HLEN.out.1
    have hmR:=HLEN.out.2
    have HLR:=Lib.hid (show v≤L.length∧q-v≤R.length∧v≤q by omega)
    obtain⟨st,hst⟩:∃e,e=a+v:=⟨_,rfl⟩
    obtain⟨en,hen⟩:∃e,e+v=q+m:=⟨q+m-v,by omega⟩
    have hcast:(a:Int)+(v:Int)=(st:Int):=by omega
    have HEND:=Lib.hid (show st=a+v∧en+v=q+m∧mid=a+q by omega)
    have k7:IntKind.i64.wrap ((mid:Int)+(m:Int)-(st:Int))=(en:Int):=by rw[IntWalk.i64_in _ (by omega)];omega
    have ht:decide ((st:Int)<(st:Int))=false:=by simp
    have HM:=Lib.hid hmid
    clear hq hmL hmR hen hst hmid hmu huv hvb huv1 hlh hhq hhL hlR ham hmb
    simp only[hcast]
    clear hcast
    rename World=>wo
    obtain⟨t1,ht1⟩:∃t,t=decide (st<m∧m<en):=⟨_,rfl⟩
    obtain⟨t2,ht2⟩:∃t,t=decide (a<st∧st<mid):=⟨_,rfl⟩
    obtain⟨t3,ht3⟩:∃t,t=decide (mid<en∧en<b):=⟨_,rfl⟩
    have HT1:=Lib.hid ht1
    have HT2:=Lib.hid ht2
    have HT3:=Lib.hid ht3
    clear ht1 ht2 ht3
    go_upto_region 39 with fail
    go_cut [185] from 25 (fun v185 W=>v185=.bool t1∧W=wo)
    case first=>as_aux_lemma=>
     by_cases e1:st<m
     all_goals
      go_wp2_with fail
      go_meet
      case rel=>
       refine⟨?_,rfl⟩
       rw[HT1.out]
       congr 1
       first
        |(rw[decide_eq_decide];omega)
        |(symm;rw[decide_eq_false_iff_not];omega)
    case rest=>
     obtain⟨rfl,rfl⟩:=hcut
     rename World=>w2
     clear k4 k5 k6 k7 ht k1 k2 k3
     go_upto_if 185 with fail
     go_cut [] from 25 (fun W=>Hid (Own intR 3 B W (.slice (some ⟨g,0,none⟩) n cap) (P++(L.take v++R.take (q-v))++(L.drop v++R.drop (q-v))++S)∧w1.grownBy W (some g)))
     case first=>as_aux_lemma=>
      have hh:=HT1.out
      cases t1 with
      |true=>
       have h1:=(of_decide_eq_true hh.symm).1
       have h2:=(of_decide_eq_true hh.symm).2
       have hown:=HQ2.out.2.2.1
       rw[cut4 P L R S v (q-v)] at hown
       obtain⟨a1,a2,a3⟩:=HEND.out
       obtain⟨b1,b2,b3⟩:=HLR.out
       obtain⟨en0,ea,em,eb⟩:=HEN.out
       have C:=Lib.hid (rotate_any (.func (.func fid) #[] lb) hown (by rw[←cut4 P L R S v (q-v),←en0];exact hn) (by rw[←cut4 P L R S v (q-v),←en0]) (a:=st) (m:=m) (b:=en) (by rw[List.length_append,List.length_take];omega) (by rw[List.length_append,List.length_take,List.length_drop];omega)
        (by rw[List.length_append,List.length_take,List.length_drop,List.length_take];omega) (List.ne_nil_of_length_pos (by rw[List.length_drop];omega)) (List.ne_nil_of_length_pos (by rw[List.length_take];omega)))
       clear hown hh h1 h2 a1 a2 a3 b1 b2 b3 en0 ea em eb
       go_wp2_with fail
       refine C.out.mono ?_
       rintro e w3 ⟨rfl,ho2,hg2⟩
       have HW:=Lib.hid (And.intro ho2 (grownBy_trans HQ2.out.2.2.2 hg2))
       clear ho2 hg2 C
       go_wp2_with fail
       go_meet
       case rel=>
        refine⟨?_,HW.out.2⟩
        have:=HW.out.1
        simp only[List.append_assoc] at this⊢
        exact this
      |false=>
       go_wp2_with fail
       go_meet
       case rel=>
        refine⟨?_,HQ2.out.2.2.2⟩
        have h1:=of_decide_eq_false hh.symm
        obtain⟨a1,a2,a3⟩:=HEND.out
        obtain⟨b1,b2,b3⟩:=HLR.out
        have em:=HEN.out.2.2.1
        rw[←cut4_same]
        ·exact HQ2.out.2.2.1
        ·rcases Nat.lt_or_ge st m with c|c
         ·exact .inr (by rw[show q-v=0 by omega];rfl)
         ·exact .inl (List.drop_of_length_le (by omega))
     case rest=>as_aux_lemma=>
      have HR1:=Lib.hid hcut
      clear hcut
      rename World=>w3
      go_upto_region 41 with fail
      go_cut [199] from 25 (fun v199 W=>v199=.bool t2∧W=w3)
      case first=>as_aux_lemma=>
       by_cases e1:a<st
       all_goals
        go_wp2_with fail
        go_meet
        case rel=>
         refine⟨?_,rfl⟩
         rw[HT2.out]
         congr 1
         first
          |(rw[decide_eq_decide];omega)
          |(symm;rw[decide_eq_false_iff_not];omega)
      case rest=>
       obtain⟨rfl,rfl⟩:=hcut
       rename World=>w4
       go_upto_if 199 with fail
       go_cut [] from 25 (fun W=> ∃M1,Hid (M1.Perm (L.take v++R.take (q-v))∧Asc key M1∧Own intR 3 B W (.slice (some ⟨g,0,none⟩) n cap) (P++M1++(L.drop v++R.drop (q-v))++S)∧w1.grownBy W (some g)))
       case first=>as_aux_lemma=>
        have hh:=HT2.out
        cases t2 with
        |true=>
         have h1:=(of_decide_eq_true hh.symm).1
         have h2:=(of_decide_eq_true hh.symm).2
         have hown:=HR1.out.out.1
         obtain⟨a1,a2,a3⟩:=HEND.out
         obtain⟨b1,b2,b3⟩:=HLR.out
         obtain⟨en0,ea,em,eb⟩:=HEN.out
         have hlen:(P++(L.take v++R.take (q-v))++(L.drop v++R.drop (q-v))++S).length=n:=by
          rw[en0]
          simp only[List.length_append,List.length_take,List.length_drop]
          omega
         have e5:P++(L.take v++R.take (q-v))++(L.drop v++R.drop (q-v))++S=P++L.take v++R.take (q-v)++((L.drop v++R.drop (q-v))++S):=by simp only[List.append_assoc]
         rw[e5] at hown hlen
         have C:=Lib.hid (IH.out a st mid P (L.take v) (R.take (q-v)) ((L.drop v++R.drop (q-v))++S) w4 ((HC.out.later HR1.out.out.2).sub fun y hy=>by
          rcases List.mem_append.1 hy with hy|hy
          ·exact List.mem_append_left _ (List.mem_of_mem_take hy)
          ·exact List.mem_append_right _ (List.mem_of_mem_take hy)) hown hlen.symm ea (by rw[List.length_take];omega) (by rw[List.length_take];omega)
          (HR.out.1.sublist (List.take_sublist _ _)) (HR.out.2.1.sublist (List.take_sublist _ _)) (fun x hx y hy=>HR.out.2.2 x (List.mem_of_mem_take hx) y (List.mem_of_mem_take hy)) (by rw[List.length_take];omega) (by rw[List.length_take];omega) (by rw[List.length_take,List.length_take];have:=HM.out;omega))
         clear hown hlen e5 hh h1 h2 a1 a2 a3 b1 b2 b3 en0 ea em eb
         go_wp2_with fail
         refine C.out.mono ?_
         rintro e w5 ⟨rfl,⟨M1,hp,hasc,ho2⟩,hg2⟩
         have HW:=Lib.hid (And.intro hp (And.intro hasc (And.intro ho2 (grownBy_trans HR1.out.out.2 hg2))))
         clear hp hasc ho2 hg2 C
         go_wp2_with fail
         go_meet
         case rel=>
          refine⟨M1,HW.out.1,HW.out.2.1, ?_,HW.out.2.2.2⟩
          have:=HW.out.2.2.1
          simp only[List.append_assoc] at this⊢
          exact this
        |false=>
         go_wp2_with fail
         go_meet
         case rel=>
          have h1:=of_decide_eq_false hh.symm
          obtain⟨a1,a2,a3⟩:=HEND.out
          refine⟨L.take v++R.take (q-v),List.Perm.refl _, ?_,HR1.out.out.1,HR1.out.out.2⟩
          refine asc_one (HR.out.1.sublist (List.take_sublist _ _)) (HR.out.2.1.sublist (List.take_sublist _ _)) ?_
          rcases Nat.lt_or_ge a st with c|c
          ·exact .inr (by rw[show q-v=0 by omega];rfl)
          ·exact .inl (by rw[show v=0 by omega];rfl)
       case rest=>as_aux_lemma=>
        obtain⟨M1,hM1⟩:=hcut
        have HR2:=Lib.hid hM1
        clear hM1
        rename World=>w5
        go_upto_region 43 with fail
        go_cut [213] from 25 (fun v213 W=>v213=.bool t3∧W=w5)
        case first=>as_aux_lemma=>
         by_cases e1:mid<en
         all_goals
          go_wp2_with fail
          go_meet
          case rel=>
           refine⟨?_,rfl⟩
           rw[HT3.out]
           congr 1
           first
            |(rw[decide_eq_decide];omega)
            |(symm;rw[decide_eq_false_iff_not];omega)
        case rest=>
         obtain⟨rfl,rfl⟩:=hcut
         rename World=>w6
         have hh:=HT3.out
         cases t3 with
         |true=>
          have h1:=(of_decide_eq_true hh.symm).1
          have h2:=(of_decide_eq_true hh.symm).2
          obtain⟨p1,p2,hown,hgr⟩:=HR2.out.out
          obtain⟨a1,a2,a3⟩:=HEND.out
          obtain⟨b1,b2,b3⟩:=HLR.out
          obtain⟨en0,ea,em,eb⟩:=HEN.out
          have hl1:=p1.length_eq
          simp only[List.length_append,List.length_take] at hl1
          have hlen:(P++M1++(L.drop v++R.drop (q-v))++S).length=n:=by
           rw[en0]
           simp only[List.length_append,List.length_drop]
           omega
          have e5:P++M1++(L.drop v++R.drop (q-v))++S=(P++M1)++L.drop v++R.drop (q-v)++S:=by simp only[List.append_assoc]
          rw[e5] at hown hlen
          have C:=Lib.hid (IH.out mid en b (P++M1) (L.drop v) (R.drop (q-v)) S w6 ((HC.out.later hgr).sub fun y hy=>by
           rcases List.mem_append.1 hy with hy|hy
           ·exact List.mem_append_left _ (List.mem_of_mem_drop hy)
           ·exact List.mem_append_right _ (List.mem_of_mem_drop hy)) hown hlen.symm (by rw[List.length_append];omega) (by rw[List.length_drop];omega) (by rw[List.length_drop];omega)
           (HR.out.1.sublist (List.drop_sublist _ _)) (HR.out.2.1.sublist (List.drop_sublist _ _)) (fun x hx y hy=>HR.out.2.2 x (List.mem_of_mem_drop hx) y (List.mem_of_mem_drop hy)) (by rw[List.length_drop];omega) (by rw[List.length_drop];omega) (by rw[List.length_drop,List.length_drop];have:=HM.out;omega))
          clear hown hlen e5 hh h1 h2 a1 a2 a3 b1 b2 b3 en0 ea em eb p1 p2 hgr hl1
          go_wp2_with fail
          refine C.out.mono ?_
          rintro e w7 ⟨rfl,⟨M2,hp,hasc,ho2⟩,hg2⟩
          have HW:=Lib.hid (And.intro hp (And.intro hasc (And.intro ho2 (grownBy_trans HR2.out.out.2.2.2 hg2))))
          clear hp hasc ho2 hg2 C
          go_wp2_with fail
          refine bodyPost_end (results_none rfl _ _ _) rfl ?_
          have hj:=sym_join HR.out.1 HR.out.2.1 HS.out HR2.out.out.1 HR2.out.out.2.1 HW.out.1 HW.out.2.1
          refine⟨by first|trivial|rfl,⟨M1++M2,hj.1,hj.2, ?_⟩,HW.out.2.2.2⟩
          have:=HW.out.2.2.1
          simp only[List.append_assoc] at this⊢
          exact this
         |false=>
          go_wp2_with fail
          refine bodyPost_end (results_none rfl _ _ _) rfl ?_
          have h1:=of_decide_eq_false hh.symm
          obtain⟨a1,a2,a3⟩:=HEND.out
          obtain⟨b1,b2,b3⟩:=HLR.out
          obtain⟨en0,ea,em,eb⟩:=HEN.out
          have hj:=sym_join HR.out.1 HR.out.2.1 HS.out HR2.out.out.1 HR2.out.out.2.1 (List.Perm.refl _) (asc_one (HR.out.1.sublist (List.drop_sublist _ _)) (HR.out.2.1.sublist (List.drop_sublist _ _)) (by
           rcases Nat.lt_or_ge mid en with c|c
           ·exact .inr (List.drop_of_length_le (by omega))
           ·exact .inl (List.drop_of_length_le (by omega))))
          refine⟨by first|trivial|rfl,⟨M1++(L.drop v++R.drop (q-v)),hj.1,hj.2, ?_⟩,HR2.out.out.2.2.2⟩
          have:=HR2.out.out.2.2.1
          simp only[List.append_assoc] at this⊢
          exact this
end Go.Proofs.YtlckmjiioohcmaaGreatDoor
namespace Go.Proofs.YtlckmjiioohcmaaGreatDoor
open Go.RowKit
theorem sym_all {B g cap n:Nat} {fid:FuncId} {lb:Array Value} {key:Int→Int} (hn:n≤1000000):∀N,SymOk B g cap n fid lb key N:=by
 intro N
 induction N with
 |zero=>intro a m b P L R S w _ _ _ _ _ _ _ _ _ _ _ h;omega
 |succ N ihN=>
  intro a m b P L R S w hc ho en ea em eb hL hR hx h0 h1 hN
  rcases Nat.lt_or_ge 1 L.length with hl|hl
  ·rcases Nat.lt_or_ge 1 R.length with hr|hr
   ·refine sym_step hc ho en hn ea em eb hL hR hx hl hr ?_
    intro a m b P L' R' S w c1 c2 c3 c4 c5 c6 c7 c8 c9 c10 c11 c12
    exact ihN a m b P L' R' S w c1 c2 c3 c4 c5 c6 c7 c8 c9 c10 c11 (by omega)
   ·obtain⟨x,rfl⟩:=List.length_eq_one_iff.1 (show R.length=1 by omega)
    have e:P++L++[x]++S=P++L++x::S:=by simp
    rw[e] at ho en
    exact symOneRight_any hc ho en hn ea em (by simpa using eb) hL (fun y hy=>hx y hy x (by simp)) hl
  ·obtain⟨x,rfl⟩:=List.length_eq_one_iff.1 (show L.length=1 by omega)
   have e:P++[x]++R++S=P++x::R++S:=by simp
   rw[e] at ho en
   exact symOneLeft_any hc ho en hn ea (by simpa using em) eb hR (fun y hy=>hx x (by simp) y hy)
inductive Blk (key:Int→Int) (k:Nat):List Int→List Int→Prop
 |last {l M:List Int}:l.length≤k→M.Perm l→Asc key M→Blk key k l M
 |cons {l M l' M':List Int}:l.length=k→M.Perm l→Asc key M→Blk key k l' M'→Blk key k (l++l') (M++M')
inductive Fullb (key:Int→Int) (k:Nat):List Int→List Int→Prop
 |nil:Fullb key k [] []
 |snoc {lA MA l M:List Int}:Fullb key k lA MA→l.length=k→M.Perm l→Asc key M→Fullb key k (lA++l) (MA++M)
theorem Blk.len {key:Int→Int} {k:Nat} {l M:List Int} (h:Blk key k l M):M.length=l.length:=by
 induction h with
 |last _ p _=>exact p.length_eq
 |cons _ p _ _ ih=>rw[List.length_append,List.length_append,p.length_eq,ih]
theorem Fullb.len {key:Int→Int} {k:Nat} {l M:List Int} (h:Fullb key k l M):M.length=l.length:=by
 induction h with
 |nil=>rfl
 |snoc _ _ p _ ih=>rw[List.length_append,List.length_append,p.length_eq,ih]
theorem Fullb.mem {key:Int→Int} {k:Nat} {l M:List Int} (h:Fullb key k l M) {x:Int}:x∈M→x∈l:=by
 induction h with
 |nil=>exact id
 |snoc _ _ p _ ih=>
  intro hx
  rcases List.mem_append.1 hx with hx|hx
  ·exact List.mem_append_left _ (ih hx)
  ·exact List.mem_append_right _ (p.mem_iff.1 hx)
theorem Fullb.join {key:Int→Int} {k:Nat} {lA MA:List Int} (h:Fullb key k lA MA):∀{lB MB:List Int},Blk key k lB MB→Blk key k (lA++lB) (MA++MB):=by
 induction h with
 |nil=>intro lB MB hb;exact hb
 |snoc _ e p a ih=>
  intro lB MB hb
  rw[List.append_assoc,List.append_assoc]
  exact ih (.cons e p a hb)
theorem Blk.head {key:Int→Int} {k:Nat} {l M:List Int} (h:Blk key k l M) (hk:k≤l.length):
 ∃l1 l2 M1 M2,l=l1++l2∧M=M1++M2∧l1.length=k∧M1.Perm l1∧Asc key M1∧Blk key k l2 M2:=by
 cases h with
 |last e p a=>exact⟨l,[],M,[],by simp,by simp,by omega,p,a,.last (by simp) (List.Perm.refl _) List.Pairwise.nil⟩
 |cons e p a hb=>exact⟨_,_,_,_,rfl,rfl,e,p,a,hb⟩
theorem Blk.tail {key:Int→Int} {k:Nat} {l M:List Int} (h:Blk key k l M) (hk:l.length≤k):M.Perm l∧Asc key M:=by
 cases h with
 |last e p a=>exact⟨p,a⟩
 | @cons l1 M1 l2 M2 e p a hb=>
  rw[List.length_append] at hk
  obtain rfl:l2=[]:=List.eq_nil_of_length_eq_zero (by omega)
  obtain rfl:M2=[]:=List.eq_nil_of_length_eq_zero (by rw[hb.len];rfl)
  simp only[List.append_nil]
  exact⟨p,a⟩
end Go.Proofs.YtlckmjiioohcmaaGreatDoor
namespace Go.Proofs.YtlckmjiioohcmaaGreatDoor
open Go.RowKit
theorem pw_cut {A B C:List Int} (h:(A++(B++C)).Pairwise (· < ·)):B.Pairwise (· < ·)∧∀x∈B,∀y∈C,x<y:=
 have h2:=(List.pairwise_append.1 h).2.1
 ⟨(List.pairwise_append.1 h2).1,(List.pairwise_append.1 h2).2.2⟩
set_option maxRecDepth 20000 in
set_option maxHeartbeats 4000000 in
theorem stable_any {B g cap n:Nat} {l:List Int} {w:World} {fid:FuncId} {lb:Array Value} {key:Int→Int} (hc:CmpOk w g fid lb key l) (ho:Own intR 3 B w (.slice (some ⟨g,0,none⟩) n cap) l) (en:n=l.length) (hn:n≤1000000) (hl:l.Pairwise (· < ·)):
 Calls Tryz.prog 182 #[.slice (some ⟨g,0,none⟩) n cap,.int .i64 (n:Int),.func (.func fid) #[] lb] w fun e w'=>
  e=.returned (.tuple #[])∧(∃M,M.Perm l∧Asc key M∧Own intR 3 B w' (.slice (some ⟨g,0,none⟩) n cap) M)∧w.grownBy w' (some g):=by
 have HO:=Lib.hid ho
 have HEN:=Lib.hid en
 have HC:=Lib.hid hc
 have HL:=Lib.hid hl
 clear ho en hc hl
 go_enter Tryz.func182,Tryz.ntmps182
 go_wp2
 go_loopw [7,8] (fun i j wr=> ∃a b:Nat,i=.int .i64 (a:Int)∧j=.int .i64 (b:Int)∧a≤n∧b≤n+20∧Hid (b=a+20∧∃lA lB MA,l=lA++lB∧a=lA.length∧Fullb key 20 lA MA∧Own intR 3 B wr (.slice (some ⟨g,0,none⟩) n cap) (MA++lB)∧w.grownBy wr (some g))) (fun i j _=>n+21-(intOf j).toNat)
 case atStart=>
  exact⟨0,20,rfl,rfl,Nat.zero_le _,by omega,rfl,[],l,[],rfl,rfl,.nil,HO.out,World.grownBy.refl _ _⟩
 case round=>
  obtain⟨a,b,rfl,rfl,han,hbn,hr⟩:=hrel
  obtain⟨hab,lA,lB,MA,hr⟩:=hr
  have HAB:=Lib.hid hab
  have HR:=Lib.hid hr
  clear hr hab
  have HLEN:=Lib.hid (show n=a+lB.length∧a=MA.length by
   obtain⟨e1,e2,e3,_⟩:=HR.out
   have:=HEN.out
   rw[e1,List.length_append] at this
   exact⟨by omega,by rw[e3.len];exact e2⟩)
  by_cases hb:b≤n
  ·have ht:decide ((b:Int)≤(n:Int))=true:=by simp;omega
   have nb:IntKind.i64.wrap ((b:Int)+20)=(b:Int)+20:=IntWalk.i64_in _ (by omega)
   have hcut:lB=lB.take 20++lB.drop 20:=(List.take_append_drop _ _).symm
   have hlen:(lB.take 20).length=20:=by
    have:=HLEN.out.1
    have:=HAB.out
    rw[List.length_take]
    omega
   generalize lB.take 20=D at hcut hlen
   generalize lB.drop 20=S at hcut
   subst hcut
   obtain⟨e1,e2,e3,hown,hgr⟩:=HR.out
   have hpw:=pw_cut (by rw[←e1];exact HL.out)
   rw[←List.append_assoc] at hown
   have C:=Lib.hid (insertion_any (a:=a) (b:=b) ((HC.out.later hgr).sub fun y hy=>by rw[e1];simp[hy]) hown (by have:=HLEN.out;simp only[List.length_append] at this⊢;omega) hn HLEN.out.2 (by rw[←HLEN.out.2,hlen];exact HAB.out) hpw.1 (by intro h;rw[h] at hlen;simp at hlen))
   have HD:=Lib.hid hlen
   clear e1 e2 e3 hown hgr hpw hlen
   go_wp2_with fail
   refine C.out.mono ?_
   rintro e w2 ⟨rfl,⟨M,hp,hasc,ho2⟩,hg2⟩
   have HW:=Lib.hid (And.intro hp (And.intro hasc (And.intro ho2 hg2)))
   clear hp hasc ho2 hg2 C
   go_wp2_with fail
   go_roundw
   case rel=>
    obtain⟨e1,e2,e3,hown,hgr⟩:=HR.out
    obtain⟨hp,hasc,ho2,hg2⟩:=HW.out
    refine⟨b,b+20,by go_num,by go_num,hb,by omega,rfl,lA++D,S,MA++M,by rw[e1];simp, ?_,.snoc e3 HD.out hp hasc,ho2,grownBy_trans hgr hg2⟩
    rw[List.length_append,HD.out,←e2]
    exact HAB.out
   case measure=>simp[intOf];omega
  ·have ht:decide ((b:Int)≤(n:Int))=false:=by simp;omega
   have C:Calls Tryz.prog 199 #[.slice (some ⟨g,0,none⟩) n cap,.int .i64 (a:Int),.int .i64 (n:Int),.func (.func fid) #[] lb] wr fun e w'=>
    e=.returned (.tuple #[])∧(∃M,M.Perm lB∧Asc key M∧Own intR 3 B w' (.slice (some ⟨g,0,none⟩) n cap) (MA++M))∧wr.grownBy w' (some g):=by
    obtain⟨e1,e2,e3,hown,hgr⟩:=HR.out
    by_cases hnil:lB=[]
    ·have ean:a=n:=by rw[HLEN.out.1,hnil];rfl
     subst ean
     refine(insertion_nil _ wr hn).mono ?_
     rintro e w' ⟨rfl,rfl⟩
     exact⟨rfl,⟨lB,List.Perm.refl _,by rw[hnil];exact List.Pairwise.nil,hown⟩,World.grownBy.refl _ _⟩
    ·have hpw:=pw_cut (A:=lA) (B:=lB) (C:=[]) (by rw[List.append_nil,←e1];exact HL.out)
     rw[←List.append_nil (MA++lB)] at hown
     refine(insertion_any (a:=a) (b:=n) ((HC.out.later hgr).sub fun y hy=>by rw[e1];simp[hy]) hown (by have:=HLEN.out;simp only[List.length_append,List.length_nil];omega) hn HLEN.out.2 (by rw[←HLEN.out.2];exact HLEN.out.1) hpw.1 hnil).mono ?_
     rintro e w' ⟨rfl,⟨M,hp,hasc,ho2⟩,hg2⟩
     exact⟨rfl,⟨M,hp,hasc,by simpa using ho2⟩,hg2⟩
   have C:=Lib.hid C
   go_wp2_with fail
   refine C.out.mono ?_
   rintro e w2 ⟨rfl,⟨M,hp,hasc,ho2⟩,hg2⟩
   have HW:=Lib.hid (show Blk key 20 l (MA++M)∧Own intR 3 B w2 (.slice (some ⟨g,0,none⟩) n cap) (MA++M)∧w.grownBy w2 (some g) by
    obtain⟨e1,e2,e3,hown,hgr⟩:=HR.out
    refine⟨?_,ho2,grownBy_trans hgr hg2⟩
    rw[e1]
    refine e3.join (.last ?_ hp hasc)
    have:=HLEN.out.1
    have:=HAB.out
    omega)
   clear hp hasc ho2 hg2 C ht hb
   rename World=>wo
   go_wp2_with fail
   go_loopw [6] (fun i wr=> ∃k:Nat,i=.int .i64 (k:Int)∧1≤k∧k≤2000000∧Hid (∃M,Blk key k l M∧Own intR 3 B wr (.slice (some ⟨g,0,none⟩) n cap) M∧w.grownBy wr (some g))) (fun i _=>n-(intOf i).toNat)
   case atStart=>exact⟨20,rfl,by omega,by omega,_,HW.out⟩
   case round=>
    obtain⟨k,rfl,hk1,hk2,hr⟩:=hrel
    have HK:=Lib.hid hr
    clear hr
    by_cases hkn:k<n
    ·have ht:decide ((k:Int)<(n:Int))=true:=by simp;omega
     obtain⟨k2,hk⟩:∃k2,k2=2*k:=⟨_,rfl⟩
     have m1:IntKind.i64.wrap (2*(k:Int))=(k2:Int):=by rw[IntWalk.i64_in _ (by omega)];omega
     have m2:IntKind.i64.wrap ((k:Int)*2)=(k2:Int):=by rw[IntWalk.i64_in _ (by omega)];omega
     have hk22:k2≤2000000∧1≤k2∧k<k2:=by omega
     have HK2:=Lib.hid hk
     clear hk
     rename World=>w3
     go_wp2_with fail
     go_loopw [7,8] (fun i j wr=> ∃a b:Nat,i=.int .i64 (a:Int)∧j=.int .i64 (b:Int)∧a≤n∧b≤n+k2∧Hid (b=a+k2∧∃lA lB MA MB,l=lA++lB∧a=lA.length∧Fullb key k2 lA MA∧Blk key k lB MB∧Own intR 3 B wr (.slice (some ⟨g,0,none⟩) n cap) (MA++MB)∧w.grownBy wr (some g))) (fun i j _=>n+k2+1-(intOf j).toNat)
     case atStart=>
      obtain⟨M,hb,hown,hg⟩:=HK.out.out
      exact⟨0,k2,rfl,rfl,Nat.zero_le _,by omega,by omega,[],l,[],M,rfl,rfl,.nil,hb,hown,hg⟩
     case round=>as_aux_lemma=>
      obtain⟨a,b,rfl,rfl,han,hbn,hr⟩:=hrel
      obtain⟨hab,lA,lB,MA,MB,hr⟩:=hr
      have HAB:=Lib.hid hab
      have HR:=Lib.hid hr
      have HLEN:=Lib.hid (show n=a+lB.length∧a=MA.length by
       obtain⟨e1,e2,e3,_⟩:=hr
       have:=HEN.out
       rw[e1,List.length_append] at this
       exact⟨by omega,by rw[e3.len];exact e2⟩)
      obtain⟨mk,hmk⟩:∃mk,mk=a+k:=⟨_,rfl⟩
      have m3:IntKind.i64.wrap ((a:Int)+(k:Int))=(mk:Int):=by rw[IntWalk.i64_in _ (by omega)];omega
      have HMK:=Lib.hid hmk
      clear hr hab hmk
      by_cases hb:b≤n
      ·have ht:decide ((b:Int)≤(n:Int))=true:=by simp;omega
       obtain⟨b2,hb2⟩:∃b2,b2=b+k2:=⟨_,rfl⟩
       have m4:IntKind.i64.wrap ((b:Int)+(k2:Int))=(b2:Int):=by rw[IntWalk.i64_in _ (by omega)];omega
       have HB2:=Lib.hid hb2
       clear hb2
       obtain⟨e1,e2,e3,e4,hown,hgr⟩:=HR.out
       obtain⟨l1,lC,M1,MC,rfl,rfl,c1,p1,a1,hC⟩:=e4.head (by have:=HLEN.out;have:=HAB.out;have:=HK2.out;omega)
       obtain⟨l2,l3,M2,M3,rfl,rfl,c2,p2,a2,h3⟩:=hC.head (by have t:=HLEN.out.1;have:=HAB.out;have:=HK2.out;simp only[List.length_append] at t;omega)
       have hpw:=pw_cut (A:=lA) (B:=l1) (C:=l2++l3) (by rw[←e1];exact HL.out)
       have e5:MA++(M1++(M2++M3))=MA++M1++M2++M3:=by simp only[List.append_assoc]
       rw[e5] at hown
       have q1:=p1.length_eq
       have q2:=p2.length_eq
       have q3:=h3.len
       have C:=Lib.hid (sym_all hn (M1.length+M2.length+1) a mk b MA M1 M2 M3 wr ((HC.out.later hgr).sub fun y hy=>by
        rw[e1]
        rcases List.mem_append.1 hy with hy|hy
        ·exact List.mem_append_right _ (List.mem_append_left _ (p1.mem_iff.1 hy))
        ·exact List.mem_append_right _ (List.mem_append_right _ (List.mem_append_left _ (p2.mem_iff.1 hy)))) hown (by have:=HLEN.out;simp only[List.length_append] at this⊢;omega) HLEN.out.2 (by have:=HMK.out;omega) (by have:=HMK.out;have:=HAB.out;have:=HK2.out;omega)
        a1 a2 (fun x hx y hy=>hpw.2 x (p1.mem_iff.1 hx) y (List.mem_append_left _ (p2.mem_iff.1 hy))) (by omega) (by omega) (by omega))
       have HP:=Lib.hid (And.intro p1 (And.intro p2 (And.intro c1 (And.intro c2 h3))))
       clear e1 e2 e3 e4 e5 hown hgr hpw q1 q2 q3 p1 p2 a1 a2 c1 c2 h3 hC
       go_wp2_with fail
       refine C.out.mono ?_
       rintro e w4 ⟨rfl,⟨M,hp,hasc,ho2⟩,hg2⟩
       have HW2:=Lib.hid (And.intro hp (And.intro hasc (And.intro ho2 hg2)))
       clear hp hasc ho2 hg2 C
       go_wp2_with fail
       go_roundw
       case rel=>
        obtain⟨e1,e2,e3,e4,hown,hgr⟩:=HR.out
        obtain⟨hp,hasc,ho2,hg2⟩:=HW2.out
        obtain⟨p1,p2,c1,c2,h3⟩:=HP.out
        have hb2:=HB2.out
        refine⟨b,b2,by go_num,by go_num,hb,by omega,hb2,lA++(l1++l2),l3,MA++M,M3,by rw[e1];simp only[List.append_assoc], ?_,.snoc e3 ?_ (hp.trans (p1.append p2)) hasc,h3,ho2,grownBy_trans hgr hg2⟩
        ·have:=HAB.out
         have:=HK2.out
         simp only[List.length_append]
         omega
        ·have:=HK2.out
         simp only[List.length_append]
         omega
       case measure=>
        have:=HB2.out
        simp[intOf]
        omega
      ·have ht:decide ((b:Int)≤(n:Int))=false:=by simp;omega
       by_cases hm:mk<n
       ·have ht2:decide ((mk:Int)<(n:Int))=true:=by simp;omega
        obtain⟨e1,e2,e3,e4,hown,hgr⟩:=HR.out
        obtain⟨l1,l2,M1,M2,rfl,rfl,c1,p1,a1,hC⟩:=e4.head (by have:=HLEN.out;have:=HMK.out;omega)
        obtain⟨p2,a2⟩:=hC.tail (by have t:=HLEN.out.1;have:=HAB.out;have:=HK2.out;simp only[List.length_append] at t;omega)
        have hpw:=pw_cut (A:=lA) (B:=l1) (C:=l2) (by rw[←e1];exact HL.out)
        have e5:MA++(M1++M2)=MA++M1++M2++[]:=by simp only[List.append_assoc,List.append_nil]
        rw[e5] at hown
        have q1:=p1.length_eq
        have q2:=p2.length_eq
        have C:=Lib.hid (sym_all hn (M1.length+M2.length+1) a mk n MA M1 M2 [] wr ((HC.out.later hgr).sub fun y hy=>by
         rw[e1]
         rcases List.mem_append.1 hy with hy|hy
         ·exact List.mem_append_right _ (List.mem_append_left _ (p1.mem_iff.1 hy))
         ·exact List.mem_append_right _ (List.mem_append_right _ (p2.mem_iff.1 hy))) hown (by have:=HLEN.out;simp only[List.length_append,List.length_nil] at this⊢;omega) HLEN.out.2 (by have:=HMK.out;omega) (by have t:=HLEN.out;have:=HMK.out;simp only[List.length_append] at t;omega)
         a1 a2 (fun x hx y hy=>hpw.2 x (p1.mem_iff.1 hx) y (p2.mem_iff.1 hy)) (by omega) (by have t:=HLEN.out;have:=HMK.out;simp only[List.length_append] at t;omega) (by omega))
        have HP:=Lib.hid (And.intro p1 (And.intro p2 c1))
        clear e1 e2 e3 e4 e5 hown hgr hpw q1 q2 p1 p2 a1 a2 c1 hC
        go_wp2_with fail
        refine C.out.mono ?_
        rintro e w4 ⟨rfl,⟨M,hp,hasc,ho2⟩,hg2⟩
        have HW2:=Lib.hid (And.intro hp (And.intro hasc (And.intro ho2 hg2)))
        clear hp hasc ho2 hg2 C
        go_wp2_with fail
        refine⟨⟨k2,rfl,hk22.2.1,hk22.1,MA++M, ?_, ?_, ?_⟩,by simp[intOf];omega⟩
        ·obtain⟨e1,e2,e3,e4,hown,hgr⟩:=HR.out
         obtain⟨p1,p2,c1⟩:=HP.out
         rw[e1]
         refine e3.join (.last ?_ (HW2.out.1.trans (p1.append p2)) HW2.out.2.1)
         have:=HLEN.out.1
         have:=HAB.out
         omega
        ·simpa using HW2.out.2.2.1
        ·exact grownBy_trans HR.out.2.2.2.2.2 HW2.out.2.2.2
       ·have ht2:decide ((mk:Int)<(n:Int))=false:=by simp;omega
        go_wp2_with fail
        refine⟨⟨k2,rfl,hk22.2.1,hk22.1,MA++MB, ?_,HR.out.2.2.2.2.1,HR.out.2.2.2.2.2⟩,by simp[intOf];omega⟩
        obtain⟨e1,e2,e3,e4,hown,hgr⟩:=HR.out
        have htl:=e4.tail (by have:=HLEN.out.1;have:=HMK.out;omega)
        rw[e1]
        exact e3.join (.last (by have:=HLEN.out.1;have:=HAB.out;omega) htl.1 htl.2)
    ·have ht:decide ((k:Int)<(n:Int))=false:=by simp;omega
     go_wp2_with fail
     refine bodyPost_end (results_none rfl _ _ _) rfl ?_
     obtain⟨M,hb,hown,hg⟩:=HK.out.out
     have htl:=hb.tail (by have:=HEN.out;omega)
     exact⟨by first|trivial|rfl,⟨M,htl.1,htl.2,hown⟩,hg⟩
end Go.Proofs.YtlckmjiioohcmaaGreatDoor
namespace Go.Proofs.YtlckmjiioohcmaaGreatDoor
open Go.RowKit
set_option maxHeartbeats 4000000 in
theorem stable_nil {cap:Nat} {A:Option Addr} (f:Value) (w:World):
 Calls Tryz.prog 182 #[.slice A 0 cap,.int .i64 0,f] w fun e w'=>e=.returned (.tuple #[])∧w'=w:=by
 have C:=Lib.hid (insertion_nil (n:=0) (cap:=cap) (a:=0) (A:=A) f w (by omega))
 go_enter Tryz.func182,Tryz.ntmps182
 go_wp2_with fail
 go_loopw [7,8] (fun i j wr=>i=.int .i64 0∧j=.int .i64 20∧wr=w) (fun i j _=>0)
 case atStart=>exact⟨rfl,rfl,rfl⟩
 case round=>
  obtain⟨rfl,rfl,rfl⟩:=hrel
  go_wp2_with fail
  refine C.out.mono ?_
  rintro e w2 ⟨rfl,rfl⟩
  go_wp2_with fail
  rename World=>wo
  go_loopw [6] (fun i wr=>i=.int .i64 20∧wr=wo) (fun i _=>0)
  case atStart=>exact⟨rfl,rfl⟩
  case round=>
   obtain⟨rfl,rfl⟩:=hrel
   go_wp2_with fail
   refine bodyPost_end (results_none rfl _ _ _) rfl ?_
   exact⟨by first|trivial|rfl,by first|trivial|rfl⟩
theorem sortNil_any {cap:Nat} {A:Option Addr} (f:Value) (w:World):
 Calls Tryz.prog 142 #[.slice A 0 cap,f] w fun e w'=>e=.returned (.tuple #[])∧w'=w:=by
 have C:=Lib.hid (stable_nil (A:=A) (cap:=cap) f w)
 go_enter Tryz.func142,Tryz.ntmps142
 go_wp2_with fail
 refine C.out.mono ?_
 rintro e w2 ⟨rfl,rfl⟩
 go_wp2_with fail
 refine bodyPost_end (results_none rfl _ _ _) rfl ?_
 exact⟨by first|trivial|rfl,by first|trivial|rfl⟩
theorem sortStable_any {B g cap n:Nat} {l:List Int} {w:World} {fid:FuncId} {lb:Array Value} {key:Int→Int} (hc:CmpOk w g fid lb key l) (ho:Own intR 3 B w (.slice (some ⟨g,0,none⟩) n cap) l) (en:n=l.length) (hn:n≤1000000) (hl:l.Pairwise (· < ·)):
 Calls Tryz.prog 142 #[.slice (some ⟨g,0,none⟩) n cap,.func (.func fid) #[] lb] w fun e w'=>
  e=.returned (.tuple #[])∧Own intR 3 B w' (.slice (some ⟨g,0,none⟩) n cap) (srt key l)∧w.grownBy w' (some g):=by
 have C:=Lib.hid (stable_any hc ho en hn hl)
 have HL:=Lib.hid hl
 clear hc ho en hn hl
 go_enter Tryz.func142,Tryz.ntmps142
 go_wp2_with fail
 refine C.out.mono ?_
 rintro e w2 ⟨rfl,⟨M,hp,ha,ho⟩,hg⟩
 rw[srt_eq HL.out hp ha] at ho
 have HW:=Lib.hid (And.intro ho hg)
 clear ho hg hp ha C
 go_wp2_with fail
 refine bodyPost_end (results_none rfl _ _ _) rfl ?_
 exact⟨by first|trivial|rfl,HW.out.1,HW.out.2⟩
end Go.Proofs.YtlckmjiioohcmaaGreatDoor

/-
  Walks of groundlingref23.place and Check: they answer as slices.Index and model.Check. Conditions: as each theorem says.
-/
import Derived.Test.YtlckmjiioohcmaaGreatDoorRvM
import Derived.Test.YtlckmjiioohcmaaGreatDoorRsx
import Derived.Test.YtlckmjiioohcmaaGreatDoorMdE
namespace Go.Proofs.YtlckmjiioohcmaaGreatDoor
open Go.RowKit
theorem idxOf_le {α:Type} {p:α→Bool}:∀{xs:List α} {k:Nat} (hk:k<xs.length),p xs[k]=true→idxOf p xs≤(k:Int)
 |[],k,hk,_=>by simp at hk
 |x::xs,0,hk,h=>by simp at h;simp[idxOf,h]
 |x::xs,k+1,hk,h=>by
  have ih:=idxOf_le (p:=p) (xs:=xs) (k:=k) (by simpa using hk) (by simpa using h)
  simp only[idxOf]
  split
  ·omega
  ·split<;>omega
theorem place_lt {l:List Int} {j:Nat} (hj:j<l.length):decide (idxOf (fun y=>y==l[j]) l<(j:Int))=(l.take j).contains l[j]:=by
 cases hc:(l.take j).contains l[j] with
 |true=>
  obtain⟨i,hi,h1⟩:=List.getElem_of_mem (List.contains_iff_mem.1 hc)
  have hij:i<j:=by simp at hi;omega
  have hil:i<l.length:=by omega
  rw[List.getElem_take] at h1
  have:=idxOf_le (p:=fun y=>y==l[j]) (xs:=l) hil (by simpa using h1)
  exact decide_eq_true (by omega)
 |false=>
  have:idxOf (fun y=>y==l[j]) l=(j:Int):=idxOf_hit hj (by simp) fun i hi=>by
   cases h:(l[i]'(by omega)==l[j]) with
   |false=>rfl
   |true=>
    have h2:l[i]'(by omega)∈l.take j:=List.mem_iff_getElem.2 ⟨i,by simp;omega,by rw[List.getElem_take]⟩
    rw[eq_of_beq h] at h2
    rw[List.contains_iff_mem.2 h2] at hc
    exact absurd hc (by decide)
  rw[this]
  simp
set_option maxHeartbeats 1000000 in
theorem rPlace_any {w:World} {A:Option Addr} {c:Nat} {l:List Int} (h:Sl u32R w (.slice A l.length c) l) (o:Int):
 Calls Tryz.prog 66 #[.slice A l.length c,.int .u32 o] w fun e w'=>e=.returned (.int .i64 (idxOf (fun y=>y==o) l))∧Below w.heap.size w w':=by
 have hcap:=h.capB
 have HS:=Lib.hid h
 clear h
 go_enter Tryz.func66,Tryz.ntmps66
 go_wp2_with fail
 go_loopw [5] (fun iv wr=> ∃k:Nat,k≤l.length∧iv=.int .i64 (k:Int)∧Hid (Below w.heap.size w wr)∧Hid (∀j,(hj:j<l.length)→j<k→(l[j]==o)=false)) (fun iv _=>l.length-(intOf iv).toNat)
 case atStart=>exact⟨0,by omega,rfl,Lib.hid (Below.refl _ _),Lib.hid (fun _ _ h=>by omega)⟩
 case round=>
  obtain⟨k,hk,rfl,HB,HJ⟩:=hrel
  by_cases hlt:k<l.length
  case neg=>
   obtain rfl:k=l.length:=by omega
   have t0:decide ((l.length:Int)<(l.length:Int))=false:=by simp
   have hm:=Lib.hid (idxOf_miss (p:=fun y=>y==o) (xs:=l) fun x hx=>by
    obtain⟨j,hj,rfl⟩:=List.getElem_of_mem hx
    exact HJ.out j hj hj)
   go_wp2_with fail
   go_ret
   exact⟨ret_int hm.out.symm,HB.out⟩
  have t0:decide ((k:Int)<(l.length:Int))=true:=decide_eq_true (by omega)
  obtain⟨b,off,rfl,hbl,d0,_⟩:=(HS.out.up HB.out).atU hlt
  have hk0:(0:Int)≤(k:Int):=by omega
  have hk1:(k:Int)<(l.length:Int):=by omega
  cases hx:(l[k]==o) with
  |true=>
   have hm:=Lib.hid (idxOf_hit (p:=fun y=>y==o) hlt hx fun j hj=>HJ.out j (by omega) hj)
   have HX:=Lib.hid hx
   generalize l[k]=x at d0 hx HX
   clear HJ HX
   go_wp2_with fail
   go_ret
   exact⟨ret_int hm.out.symm,HB.out⟩
  |false=>
   have HN:=Lib.hid (show∀j,(hj:j<l.length)→j<k+1→(l[j]==o)=false from fun j hj hjk=>by
    by_cases e:j=k
    ·subst e;exact hx
    ·exact HJ.out j hj (by omega))
   generalize l[k]=x at d0 hx
   go_wp2_with fail
   exact⟨⟨k+1,by omega,by go_num,HB,HN⟩,by simp[intOf];omega⟩
set_option maxHeartbeats 4000000 in
set_option maxRecDepth 20000 in
theorem rcheck23_any (F:MFrm) (s:Md) (w:World) (hs:IsMd w F s) (hn:s.qs.length≤1000∧∀l,l∈s.qs→l.length≤1000):
 Calls Tryz.prog 33 #[mdV F s] w fun e w'=>e=.returned (.int .i64 (checkM s))∧Below w.heap.size w w':=by
 have C1:=Lib.hid (fun W (hb:Below w.heap.size w W)=>rseats_any (hs.up hb).secs)
 have C2:=Lib.hid (fun x W=>r16Check_any x W)
 have hT:=Lib.hid (show checkM s=if(seatsV s.ve).2≠0 then(seatsV s.ve).2 else if s.now<0 then 7 else if(s.seats.length:Int)≠(seatsV s.ve).1 then 6 else if s.qs.length≠s.ve.secs.length then 6 else
  if s.seats.any (fun x=>sxCheck x !=0) then 6 else qsE s.qs s.ve.secs from rfl)
 have HS:=Lib.hid hs
 have HN:=Lib.hid hn
 have hcapS:=hs.seats.capB
 have hcapQ:=hs.qs.capB
 clear hn
 obtain⟨V,vc,A,ac,Q,qc⟩:=F
 obtain⟨⟨shards,ttl,session,secs⟩,now,seats,qs⟩:=s
 unfold mdV
 unfold sxV at C2
 simp only at C1 hT hcapS hcapQ⊢
 generalize checkM ⟨⟨shards,ttl,session,secs⟩,now,seats,qs⟩=M at hT⊢
 generalize seatsV ⟨shards,ttl,session,secs⟩=E at C1 hT
 obtain⟨E1,E2⟩:=E
 simp only at C1 hT
 have K0:=Lib.hid (BoxN.new w 31 #[.int .i64 shards,.int .i64 ttl,.int .i64 session,.slice V secs.length vc,.int .i64 now,.slice A seats.length ac,.slice Q qs.length qc])
 have HB0:=Lib.hid (ba w (.cells #[.int .i64 shards,.int .i64 ttl,.int .i64 session,.slice V secs.length vc,.int .i64 now,.slice A seats.length ac,.slice Q qs.length qc] 31))
 clear hs
 go_enter Tryz.func33,Tryz.ntmps33
 go_wp2_with fail
 refine(C1.out _ (ba _ _)).mono ?_
 rintro e w1 ⟨rfl,hb1⟩
 have HB1:=Lib.hid (bstep HB0.out hb1)
 have b1:=K0.out.later hb1
 have c3:=b1.cell 3 (.slice V secs.length vc) rfl
 have c4:=b1.cell 4 (.int .i64 now) rfl
 have c5:=b1.cell 5 (.slice A seats.length ac) rfl
 have c6:=b1.cell 6 (.slice Q qs.length qc) rfl
 have z0:=b1.lt
 have K1:=Lib.hid b1
 clear b1 hb1 C1
 by_cases h:E2=0
 case neg=>
  obtain rfl:M=E2:=by rw[hT.out,if_pos h]
  have t:(M !=0)=true:=by simpa using h
  clear h hT
  go_wp2_with fail
  go_ret
  exact⟨rfl,HB1.out⟩
 subst h
 by_cases h:now<0
 ·obtain rfl:M=7:=by rw[hT.out];simp[h]
  have tn:decide (now<0)=true:=decide_eq_true h
  clear hT h
  go_wp2_with fail
  go_ret
  exact⟨rfl,HB1.out⟩
 replace hT:=Lib.hid (show M=if(seats.length:Int)≠E1 then 6 else if qs.length≠secs.length then 6 else if seats.any (fun x=>sxCheck x !=0) then 6 else qsE qs secs by rw[hT.out,if_neg (by simp),if_neg h])
 have hnow:decide (now<0)=false:=by simpa using h
 clear h
 by_cases h:(seats.length:Int)=E1
 case neg=>
  obtain rfl:M=6:=by rw[hT.out,if_pos h]
  have t:((seats.length:Int) !=E1)=true:=by simpa using h
  clear h hT
  go_wp2_with fail
  go_ret
  exact⟨rfl,HB1.out⟩
 subst h
 by_cases h2:qs.length=secs.length
 case neg=>
  obtain rfl:M=6:=by rw[hT.out,if_neg (by simp),if_pos h2]
  have t2:((qs.length:Int) !=(secs.length:Int))=true:=by simp;omega
  clear h2 hT
  go_wp2_with fail
  go_ret
  exact⟨rfl,HB1.out⟩
 have t2:((qs.length:Int) !=(secs.length:Int))=false:=by simp;omega
 have HL:=Lib.hid h2
 replace hT:=Lib.hid (show M=if seats.any (fun x=>sxCheck x !=0) then 6 else qsE qs secs by rw[hT.out,if_neg (by simp),if_neg (by simpa using h2)])
 clear h2
 go_wp2_with fail
 clear c3 c4 c5 c6 z0 hnow t2
 go_loopw [5] (fun iv wr=> ∃i:Nat,i≤seats.length∧iv=.int .i64 (i:Int)∧Hid (Below w1.heap.size w1 wr)∧Hid (∀j,(hj:j<seats.length)→j<i→sxCheck seats[j]=0)) (fun iv _=>seats.length-(intOf iv).toNat)
 case atStart=>exact⟨0,by omega,rfl,Lib.hid (Below.refl _ _),Lib.hid (fun _ _ h=>by omega)⟩
 case round=>
  obtain⟨i,hi,rfl,HR,HJ⟩:=hrel
  rename World=>wo
  have HBr:=Lib.hid (bstep HB1.out HR.out)
  have K2:=Lib.hid (K1.out.later HR.out)
  have c5:=K2.out.cell 5 (.slice A seats.length ac) rfl
  have z0:=K2.out.lt
  by_cases hlt:i<seats.length
  case pos=>
   have t0:decide ((i:Int)<(seats.length:Int))=true:=decide_eq_true (by omega)
   obtain⟨bS,oS,rfl,hbS,d0,d1,d2,d3,d4,_⟩:=(HS.out.seats.up HBr.out).atX hlt
   have hk0:(0:Int)≤(i:Int):=by omega
   have hk1:(i:Int)<(seats.length:Int):=by omega
   dsimp only at d0 d1 d2 d3 d4
   have HNX:=Lib.hid (fun(h:sxCheck seats[i]=0)=>(show∀j,(hj:j<seats.length)→j<i+1→sxCheck seats[j]=0 from fun j hj hji=>by
    by_cases e:j=i
    ·subst e;exact h
    ·exact HJ.out j hj (by omega)))
   have HBAD:=Lib.hid (fun(h:sxCheck seats[i]≠0)=>(show M=6 by rw[hT.out,if_pos (List.any_eq_true.2 ⟨_,List.getElem_mem hlt,by simpa using h⟩)]))
   have C3:=Lib.hid (C2.out seats[i])
   generalize sxCheck seats[i]=ck at HNX HBAD C3
   generalize seats[i]=x at d0 d1 d2 d3 d4 C3
   clear hT
   go_wp2_with fail
   refine(C3.out _).mono ?_
   rintro e w2 ⟨rfl,hb2⟩
   have HR2:=Lib.hid (HR.out.trans (hb2.mono HR.out.size))
   clear hb2 d0 d1 d2 d3 d4 c5 z0
   by_cases h:ck=0
   ·have t1:(ck !=0)=false:=by simpa using h
    have HN2:=Lib.hid (HNX.out h)
    clear h HNX HBAD
    go_wp2_with fail
    exact⟨⟨i+1,by omega,by go_num,HR2,HN2⟩,by simp[intOf];omega⟩
   ·have t1:(ck !=0)=true:=by simpa using h
    obtain rfl:=HBAD.out h
    clear h HNX HBAD
    go_wp2_with fail
    go_ret
    exact⟨rfl,bstep HB1.out HR2.out⟩
  obtain rfl:i=seats.length:=by omega
  have t0:decide ((seats.length:Int)<(seats.length:Int))=false:=by simp
  have hA:seats.any (fun x=>sxCheck x !=0)=false:=List.any_eq_false.2 fun x hx=>by
   obtain⟨j,hj,rfl⟩:=List.getElem_of_mem hx
   simpa using HJ.out j hj hj
  replace hT:=Lib.hid (show M=qsE qs secs by rw[hT.out,hA];simp)
  clear hA HJ
  go_wp2_with fail
  clear c5 z0 t0
  go_loopw [6] (fun iv wr=> ∃k:Nat,k≤qs.length∧iv=.int .i64 (k:Int)∧Hid (Below wo.heap.size wo wr∧M=qsE (qs.drop k) (secs.drop k))) (fun iv _=>qs.length-(intOf iv).toNat)
  case atStart=>exact⟨0,by omega,rfl,Lib.hid ⟨Below.refl _ _,by rw[hT.out];rfl⟩⟩
  case round=>
   obtain⟨k,hk,rfl,hrel⟩:=hrel
   rename World=>wp
   have HP:=Lib.hid hrel.out.1
   have HM:=Lib.hid hrel.out.2
   have HBp:=Lib.hid (bstep HBr.out HP.out)
   have K3:=Lib.hid (K2.out.later HP.out)
   clear hrel hT
   have c6:=K3.out.cell 6 (.slice Q qs.length qc) rfl
   have z3:=K3.out.lt
   by_cases hlt:k<qs.length
   case neg=>
    obtain rfl:k=qs.length:=by omega
    have t0:decide ((qs.length:Int)<(qs.length:Int))=false:=by simp
    have hm:M=0:=by rw[HM.out,List.drop_length];rfl
    subst hm
    clear HM
    go_wp2_with fail
    go_ret
    exact⟨rfl,HBp.out⟩
   have t0:decide ((k:Int)<(qs.length:Int))=true:=decide_eq_true (by omega)
   have hlt2:k<secs.length:=by rw[←HL.out];exact hlt
   obtain⟨b,off,A',c',rfl,hbl,e0,hin⟩:=(HS.out.qs.up HBp.out).atQ hlt
   obtain⟨b',off',_,_,rfl,hbl',_,_,e2,_,hbq,_⟩:=(HS.out.secs.up HBp.out).atS hlt2
   replace HM:=Lib.hid (HM.out.trans (qsE_drop hlt hlt2))
   have c3:=K3.out.cell 3 (.slice (some ⟨b',off',none⟩) secs.length vc) rfl
   have hk0:(0:Int)≤(k:Int):=by omega
   have hk1:(k:Int)<(qs.length:Int):=by omega
   have hk2:(k:Int)<(secs.length:Int):=by omega
   have hln:=HN.out.2 qs[k] (List.getElem_mem hlt)
   have HI:=Lib.hid hin
   clear hin
   dsimp only at e0 e2
   generalize hl:qs[k]=l at e0 HI HM hln
   generalize secs[k].queue=q at e2 HM
   clear hl
   by_cases hq:q<(l.length:Int)
   ·obtain rfl:M=3:=by rw[HM.out,if_pos hq]
    have tq:decide (q<(l.length:Int))=true:=decide_eq_true hq
    clear HM hq
    go_wp2_with fail
    go_ret
    exact⟨rfl,HBp.out⟩
   have tq:decide (q<(l.length:Int))=false:=by simpa using hq
   replace HM:=Lib.hid (show M=if twB [] l then 8 else qsE (qs.drop (k+1)) (secs.drop (k+1)) by rw[HM.out,if_neg hq])
   clear hq
   go_wp2_with fail
   clear c6 c3 z3 e0 e2 tq
   go_loopw [8] (fun iv wq=> ∃j:Nat,j≤l.length∧iv=.int .i64 (j:Int)∧Hid (Below wp.heap.size wp wq)∧Hid (∀j',(h:j'<l.length)→j'<j→(l.take j').contains l[j']=false)) (fun iv _=>l.length-(intOf iv).toNat)
   case atStart=>exact⟨0,by omega,rfl,Lib.hid (Below.refl _ _),Lib.hid (fun _ _ h=>by omega)⟩
   case round=>
    obtain⟨j,hj,rfl,HQ,HA⟩:=hrel
    rename World=>wq
    by_cases hjl:j<l.length
    case neg=>
     obtain rfl:j=l.length:=by omega
     have t1:decide ((l.length:Int)<(l.length:Int))=false:=by simp
     have hm:twB [] l=false:=twB_miss fun j hj=>HA.out j hj hj
     replace HM:=Lib.hid (show M=qsE (qs.drop (k+1)) (secs.drop (k+1)) by rw[HM.out,hm];simp)
     clear hm HA
     go_wp2_with fail
     exact⟨⟨k+1,by omega,by go_num,Lib.hid ⟨HP.out.trans (HQ.out.mono HP.out.size),HM.out⟩⟩,by simp[intOf];omega⟩
    have t1:decide ((j:Int)<(l.length:Int))=true:=decide_eq_true (by omega)
    have hj0:(0:Int)≤(j:Int):=by omega
    have hj1:(j:Int)<(l.length:Int):=by omega
    have C4:=Lib.hid (fun W (hb:Below wq.heap.size wq W)=>rPlace_any ((HI.out.up HQ.out).up hb) l[j])
    obtain⟨g,o,rfl,hbg,d0,_⟩:=(HI.out.up HQ.out).atU hjl
    have HPL:=Lib.hid (place_lt hjl)
    cases hc:(l.take j).contains l[j] with
    |true=>
     obtain rfl:M=8:=by rw[HM.out,if_pos (twB_hit hjl hc)]
     rw[hc] at HPL
     clear hc HM HA
     generalize idxOf (fun y=>y==l[j]) l=ix at C4 HPL
     generalize l[j]=x at d0 C4
     have tp:=HPL.out
     go_wp2_with fail
     refine(C4.out _ (Below.refl _ _)).mono ?_
     rintro e w5 ⟨rfl,hb5⟩
     go_wp2_with fail
     go_ret
     exact⟨rfl,bstep HBp.out (bstep HQ.out hb5)⟩
    |false=>
     rw[hc] at HPL
     have HA2:=Lib.hid (show∀j',(h:j'<l.length)→j'<j+1→(l.take j').contains l[j']=false from fun j' h hjj=>by
      by_cases e:j'=j
      ·subst e;exact hc
      ·exact HA.out j' h (by omega))
     clear hc HA
     generalize idxOf (fun y=>y==l[j]) l=ix at C4 HPL
     generalize l[j]=x at d0 C4
     have tp:=HPL.out
     go_wp2_with fail
     refine(C4.out _ (Below.refl _ _)).mono ?_
     rintro e w5 ⟨rfl,hb5⟩
     have HQ2:=Lib.hid (HQ.out.trans (hb5.mono HQ.out.size))
     clear hb5
     go_wp2_with fail
     exact⟨⟨j+1,by omega,by go_num,HQ2,HA2⟩,by simp[intOf];omega⟩
end Go.Proofs.YtlckmjiioohcmaaGreatDoor

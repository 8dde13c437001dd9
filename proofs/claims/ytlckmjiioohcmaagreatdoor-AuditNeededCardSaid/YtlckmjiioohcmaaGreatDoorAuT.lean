/-
  Walk of the audit reader's method learn: seats that are held. Conditions: as each theorem says.
-/
import Derived.Test.YtlckmjiioohcmaaGreatDoorAuR
import Derived.BigRegion
namespace Go.Proofs.YtlckmjiioohcmaaGreatDoor
open Go.RowKit
theorem modSeg_zero {α:Type} (f:α→α) (l:List α) (k:Nat):modSeg f l k 0=l:=by simp[modSeg]
theorem modSeg_len {α:Type} (f:α→α) (l:List α) (k m:Nat) (h:k+m≤l.length):(modSeg f l k m).length=l.length:=by
 simp only[modSeg,List.length_append,List.length_take,List.length_map,List.length_drop];omega
theorem modSeg_at {α:Type} (f:α→α) (l:List α) (k m:Nat) (h:k+m<l.length):(modSeg f l k m)[k+m]?=some l[k+m]:=by
 have h1:(l.take k++((l.drop k).take m).map f).length=k+m:=by simp only[List.length_append,List.length_take,List.length_map,List.length_drop];omega
 rw[modSeg,List.getElem?_append_right (by omega),h1]
 simp[List.getElem?_drop]
theorem modSeg_next {α:Type} (f:α→α) (l:List α) (k m:Nat) (h:k+m<l.length):modSeg f l k (m+1)=(modSeg f l k m).set (k+m) (f l[k+m]):=by
 have h1:(l.take k++((l.drop k).take m).map f).length=k+m:=by simp only[List.length_append,List.length_take,List.length_map,List.length_drop];omega
 have h2:(l.drop k).take (m+1)=(l.drop k).take m++[l[k+m]]:=by
  rw[List.take_succ_eq_append_getElem (by simp;omega)];simp
 rw[modSeg,modSeg,List.set_append_right _ _ (by omega),h1,Nat.sub_self,List.drop_eq_getElem_cons h,List.set_cons_zero,h2,List.map_append]
 simp[Nat.add_assoc]
theorem RdO.hold3 {w0 W:World} {g a b:Nat} {V:Option Addr} {vc:Nat} {s:Au} {op:MOp} {rp:MRp} (R:RdO w0 W g a b V vc s op rp) {k:Nat} (hk:k<s.seats.length) {x:Se} {o t:Int} (hx:s.seats[k]=x) (ho:U32 o) (ht:Bd t) (hs:SeOk x):
 RdO w0 (((W.setCell ⟨a,k*6+1,none⟩ (.bool true)).setCell ⟨a,k*6+2,none⟩ (.int .u32 o)).setCell ⟨a,k*6+3,none⟩ (.int .i64 t)) g a b V vc {s with seats:=s.seats.set k (holdS o t x)} op rp∧
  Only3 g a b W (((W.setCell ⟨a,k*6+1,none⟩ (.bool true)).setCell ⟨a,k*6+2,none⟩ (.int .u32 o)).setCell ⟨a,k*6+3,none⟩ (.int .i64 t)):=by
 obtain⟨so,he,ow,ti,se,ep⟩:=x
 obtain⟨h1,h2,h3,h4⟩:=hs
 obtain⟨R6,ho6⟩:=R.putField hk (j:=1) (by omega) (u:=.bool true) (x:=⟨so,true,ow,ti,se,ep⟩) ⟨h1,h2,h3,h4⟩ (by rw[hx];rfl)
 have l1:k<(s.seats.set k ⟨so,true,ow,ti,se,ep⟩).length:=by simpa using hk
 obtain⟨R7,ho7⟩:=R6.putField (k:=k) l1 (j:=2) (by omega) (u:=.int .u32 o) (x:=⟨so,true,o,ti,se,ep⟩) ⟨ho,h2,h3,h4⟩
  (by show(seCells ((s.seats.set k ⟨so,true,ow,ti,se,ep⟩)[k]'l1)).set 2 _=_;rw[List.getElem_set_self];rfl)
 have l2:k<((s.seats.set k ⟨so,true,ow,ti,se,ep⟩).set k ⟨so,true,o,ti,se,ep⟩).length:=by simpa using hk
 obtain⟨R8,ho8⟩:=R7.putField (k:=k) l2 (j:=3) (by omega) (u:=.int .i64 t) (x:=⟨so,true,o,t,se,ep⟩) ⟨ho,ht,h3,h4⟩
  (by show(seCells (((s.seats.set k ⟨so,true,ow,ti,se,ep⟩).set k ⟨so,true,o,ti,se,ep⟩)[k]'l2)).set 3 _=_;rw[List.getElem_set_self];rfl)
 rw[List.set_set,List.set_set] at R8
 exact⟨R8,(ho6.trans ho7).trans ho8⟩
set_option maxRecDepth 100000 in
set_option maxHeartbeats 4000000 in
theorem learnH_any {w0 W:World} {g a b:Nat} {V:Option Addr} {vc:Nat} {s:Au} {op:MOp} {rp:MRp} (R:RdO w0 W g a b V vc s op rp) (hq:isB [2,3] op.kind=true) {k m:Nat} (hkm:k+m≤s.seats.length) (hm:m≤4096) {c:Nat}
 (hch:∀w,Below W.heap.size W w→Calls Tryz.prog 118 #[.pointer (some ⟨g,0,none⟩)] w fun e w'=>e=.returned (.slice (some ⟨a,k*6,none⟩) m c)∧Below w.heap.size w w'):
 Calls Tryz.prog 83 #[.pointer (some ⟨g,0,none⟩)] W (LearnPost w0 W g a b V vc {s with seats:=modSeg (holdS op.owner rp.deadline) s.seats k m} op rp):=by
 have C2:=Lib.hid (R.rd.isC [2,3] (by simp[Bd]) (by simp))
 rw[hq] at C2
 have CH:=Lib.hid hch
 have RH:=Lib.hid R
 clear R hq hch
 go_enter Tryz.func83,Tryz.ntmps83
 go_wp2_with fail
 refine(C2.out _ _ (Below.refl _ _) rfl).mono ?_
 rintro e w1 ⟨rfl,hb⟩
 have HB:=Lib.hid hb
 clear hb
 go_wp2_with fail
 refine(CH.out _ HB.out).mono ?_
 rintro e w2 ⟨rfl,hb⟩
 replace HB:=Lib.hid (HB.out.trans (hb.mono HB.out.size))
 clear hb
 go_wp2_with fail
 go_loopw [15] (fun i wr=> ∃j:Nat,j≤m∧i=.int .i64 j∧Hid (RdO w0 wr g a b V vc {s with seats:=modSeg (holdS op.owner rp.deadline) s.seats k j} op rp)∧Hid (Only3 g a b W wr)) (fun i _=>m-(intOf i).toNat)
 case atStart=>exact⟨0,by omega,rfl,Lib.hid ((RH.out.up HB.out).same (by rw[modSeg_zero])),Lib.hid (Only3.of _ _ _ HB.out)⟩
 case round=>
  obtain⟨j,hj,rfl,RJ,HO⟩:=hrel
  by_cases hlt:j<m
  ·have R5:=RJ.out
   have hl:k+j<(modSeg (holdS op.owner rp.deadline) s.seats k j).length:=by rw[modSeg_len _ _ _ _ (by omega)];omega
   have hget:(modSeg (holdS op.owner rp.deadline) s.seats k j)[k+j]=s.seats[k+j]:=by
    have:=modSeg_at (holdS op.owner rp.deadline) s.seats k j (by omega)
    rw[List.getElem?_eq_getElem hl] at this
    exact Option.some.inj this
   obtain⟨cs,hcs0,hcs,fd⟩:=R5.ss.cell_ hl
   change seR.is _ cs (modSeg (holdS op.owner rp.deadline) s.seats k j)[k+j] at hcs0
   rw[hget] at hcs0
   obtain⟨rfl,hx⟩:=hcs0
   simp only[seR,Nat.add_mul] at hcs
   have d1:=hcs 1 _ rfl
   have d2:=hcs 2 _ rfl
   have d3:=hcs 3 _ rfl
   have f1:=fd (k*6+j*6+1)
   have f2:=fd (k*6+j*6+2)
   have f3:=fd (k*6+j*6+3)
   have z3:=R5.aB.2
   have c8:=R5.cs.c 8 _ rfl
   have c22:=R5.cs.c 22 _ rfl
   have z4:=R5.cs.lt
   have HX:=Lib.hid hx
   have HG:=Lib.hid hget
   clear R5 hcs fd hx hget
   go_wp2_with fail
   go_region
   go_wp2_with fail
   obtain⟨R8,ho8⟩:=RJ.out.hold3 (k:=k+j) hl (x:=s.seats[k+j]) (o:=op.owner) (t:=rp.deadline) HG.out RJ.out.bo.2.1 RJ.out.br.2.2.2.1 HX.out
   simp only[Nat.add_mul] at R8 ho8
   go_roundw
   case rel=>
    refine⟨j+1,by omega,by go_num,Lib.hid ((R8.up (bdd (Below.refl _ _))).same ?_),Lib.hid (HO.out.trans ho8).drew⟩
    rw[modSeg_next _ _ _ _ (by omega)]
   case measure=>simp[intOf];omega
  ·obtain rfl:j=m:=by omega
   go_wp2_with fail
   refine bodyPost_ret (results_none rfl _ _ _) rfl ?_
   exact⟨rfl,RJ.out,HO.out⟩
end Go.Proofs.YtlckmjiioohcmaaGreatDoor

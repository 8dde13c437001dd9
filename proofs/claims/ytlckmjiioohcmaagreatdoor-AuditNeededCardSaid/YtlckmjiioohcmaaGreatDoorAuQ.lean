/-
  Walk of the audit reader's method learn: steps that change nothing, or a list of waiters. Conditions: as each theorem says.
-/
import Derived.Test.YtlckmjiioohcmaaGreatDoorAuP
import Derived.BigRegion
namespace Go.Proofs.YtlckmjiioohcmaaGreatDoor
open Go.RowKit
def LearnPost (w0 W:World) (g a b:Nat) (V:Option Addr) (vc:Nat) (s:Au) (op:MOp) (rp:MRp) (e:Ending) (w':World):Prop:=e=.returned (.tuple #[])∧RdO w0 w' g a b V vc s op rp∧Only3 g a b W w'
set_option maxRecDepth 100000 in
set_option maxHeartbeats 4000000 in
theorem learn1_any {w0 W:World} {g a b:Nat} {V:Option Addr} {vc:Nat} {s:Au} {op:MOp} {rp:MRp} (R:RdO w0 W g a b V vc s op rp) (hk:op.kind=1):
 Calls Tryz.prog 83 #[.pointer (some ⟨g,0,none⟩)] W (LearnPost w0 W g a b V vc (learnA s op rp) op rp):=by
 have hL:learnA s op rp=s:=by simp[learnA,isB,hk]
 rw[hL]
 clear hL
 have C2:=Lib.hid (R.rd.isC [2,3] (by simp[Bd]) (by simp))
 rw[show isB [2,3] op.kind=false by rw[hk];rfl] at C2
 have C10:=Lib.hid (R.rd.isC [10] (by simp[Bd]) (by simp))
 rw[show isB [10] op.kind=false by rw[hk];rfl] at C10
 have C11:=Lib.hid (R.rd.isC [11] (by simp[Bd]) (by simp))
 rw[show isB [11] op.kind=false by rw[hk];rfl] at C11
 have C12:=Lib.hid (R.rd.isC [12] (by simp[Bd]) (by simp))
 rw[show isB [12] op.kind=false by rw[hk];rfl] at C12
 have S:=Lib.hid R.rd.seatG
 rw[show seatA op= -1 by simp[seatA,hk]] at S
 have RH:=Lib.hid R
 clear R
 go_enter Tryz.func83,Tryz.ntmps83
 go_wp2_with fail
 refine(C2.out _ _ (Below.refl _ _) rfl).mono ?_
 rintro e w1 ⟨rfl,hb⟩
 have HB:=Lib.hid hb
 clear hb
 go_wp2_with fail
 refine(C10.out _ _ HB.out rfl).mono ?_
 rintro e w2 ⟨rfl,hb⟩
 replace HB:=Lib.hid (HB.out.trans (hb.mono HB.out.size))
 clear hb
 go_wp2_with fail
 refine(C11.out _ _ HB.out rfl).mono ?_
 rintro e w3 ⟨rfl,hb⟩
 replace HB:=Lib.hid (HB.out.trans (hb.mono HB.out.size))
 clear hb
 go_wp2_with fail
 refine(C12.out _ _ HB.out rfl).mono ?_
 rintro e w4 ⟨rfl,hb⟩
 replace HB:=Lib.hid (HB.out.trans (hb.mono HB.out.size))
 clear hb
 go_wp2_with fail
 refine(S.out _ HB.out).mono ?_
 rintro e w5 ⟨rfl,hb⟩
 replace HB:=Lib.hid (HB.out.trans (hb.mono HB.out.size))
 clear hb
 go_wp2_with fail
 refine bodyPost_ret (results_none rfl _ _ _) rfl ?_
 exact⟨rfl,RH.out.up HB.out,Only3.of _ _ _ HB.out⟩
set_option maxRecDepth 100000 in
set_option maxHeartbeats 4000000 in
theorem learn9_any {w0 W:World} {g a b:Nat} {V:Option Addr} {vc:Nat} {s:Au} {op:MOp} {rp:MRp} (R:RdO w0 W g a b V vc s op rp) (hk:op.kind=9):
 Calls Tryz.prog 83 #[.pointer (some ⟨g,0,none⟩)] W (LearnPost w0 W g a b V vc (learnA s op rp) op rp):=by
 have hL:learnA s op rp=s:=by simp[learnA,isB,hk]
 rw[hL]
 clear hL
 have C2:=Lib.hid (R.rd.isC [2,3] (by simp[Bd]) (by simp))
 rw[show isB [2,3] op.kind=false by rw[hk];rfl] at C2
 have C10:=Lib.hid (R.rd.isC [10] (by simp[Bd]) (by simp))
 rw[show isB [10] op.kind=false by rw[hk];rfl] at C10
 have C11:=Lib.hid (R.rd.isC [11] (by simp[Bd]) (by simp))
 rw[show isB [11] op.kind=false by rw[hk];rfl] at C11
 have C12:=Lib.hid (R.rd.isC [12] (by simp[Bd]) (by simp))
 rw[show isB [12] op.kind=false by rw[hk];rfl] at C12
 have C9:=Lib.hid (R.rd.isC [9] (by simp[Bd]) (by simp))
 rw[show isB [9] op.kind=true by rw[hk];rfl] at C9
 have S:=Lib.hid R.rd.seatG
 have h0:=R.bo.2.2.2.2.2.2.2.1.1.1
 rw[show seatA op=op.tk.seat by simp[seatA,hk]] at S
 have RH:=Lib.hid R
 clear R
 go_enter Tryz.func83,Tryz.ntmps83
 go_wp2_with fail
 refine(C2.out _ _ (Below.refl _ _) rfl).mono ?_
 rintro e w1 ⟨rfl,hb⟩
 have HB:=Lib.hid hb
 clear hb
 go_wp2_with fail
 refine(C10.out _ _ HB.out rfl).mono ?_
 rintro e w2 ⟨rfl,hb⟩
 replace HB:=Lib.hid (HB.out.trans (hb.mono HB.out.size))
 clear hb
 go_wp2_with fail
 refine(C11.out _ _ HB.out rfl).mono ?_
 rintro e w3 ⟨rfl,hb⟩
 replace HB:=Lib.hid (HB.out.trans (hb.mono HB.out.size))
 clear hb
 go_wp2_with fail
 refine(C12.out _ _ HB.out rfl).mono ?_
 rintro e w4 ⟨rfl,hb⟩
 replace HB:=Lib.hid (HB.out.trans (hb.mono HB.out.size))
 clear hb
 go_wp2_with fail
 refine(S.out _ HB.out).mono ?_
 rintro e w5 ⟨rfl,hb⟩
 replace HB:=Lib.hid (HB.out.trans (hb.mono HB.out.size))
 clear hb
 go_wp2_with fail
 refine(C9.out _ _ HB.out rfl).mono ?_
 rintro e w6 ⟨rfl,hb⟩
 replace HB:=Lib.hid (HB.out.trans (hb.mono HB.out.size))
 clear hb
 go_wp2_with fail
 refine bodyPost_ret (results_none rfl _ _ _) rfl ?_
 exact⟨rfl,RH.out.up HB.out,Only3.of _ _ _ HB.out⟩
set_option maxRecDepth 100000 in
set_option maxHeartbeats 4000000 in
theorem learn11_any {w0 W:World} {g a b:Nat} {V:Option Addr} {vc:Nat} {s:Au} {op:MOp} {rp:MRp} (R:RdO w0 W g a b V vc s op rp) (hk:op.kind=11) {k:Nat} (hs:op.section_=(k:Int)) (hlt:k<s.waiting.length) (hb1:1≤s.waiting[k]) (hb2:s.waiting[k]≤64):
 Calls Tryz.prog 83 #[.pointer (some ⟨g,0,none⟩)] W (LearnPost w0 W g a b V vc (learnA s op rp) op rp):=by
 have hL:learnA s op rp={s with waiting:=s.waiting.set k (s.waiting[k]-1)}:=by simp[learnA,isB,hk,hs,waitOf,List.getElem?_eq_getElem hlt]
 rw[hL]
 clear hL
 have C2:=Lib.hid (R.rd.isC [2,3] (by simp[Bd]) (by simp))
 rw[show isB [2,3] op.kind=false by rw[hk];rfl] at C2
 have C10:=Lib.hid (R.rd.isC [10] (by simp[Bd]) (by simp))
 rw[show isB [10] op.kind=false by rw[hk];rfl] at C10
 have C11:=Lib.hid (R.rd.isC [11] (by simp[Bd]) (by simp))
 rw[show isB [11] op.kind=true by rw[hk];rfl] at C11
 have C12:=Lib.hid (R.rd.isC [12] (by simp[Bd]) (by simp))
 rw[show isB [12] op.kind=false by rw[hk];rfl] at C12
 have S:=Lib.hid (fun w W0 s' (R:RdO w W0 g a b V vc s' op rp)=>R.rd.seatG)
 rw[show seatA op= -1 by simp[seatA,hk]] at S
 have RH:=Lib.hid R
 have HS:=Lib.hid hs
 clear R hs
 go_enter Tryz.func83,Tryz.ntmps83
 go_wp2_with fail
 refine(C2.out _ _ (Below.refl _ _) rfl).mono ?_
 rintro e w1 ⟨rfl,hb⟩
 have HB:=Lib.hid hb
 clear hb
 go_wp2_with fail
 refine(C10.out _ _ HB.out rfl).mono ?_
 rintro e w2 ⟨rfl,hb⟩
 replace HB:=Lib.hid (HB.out.trans (hb.mono HB.out.size))
 clear hb
 go_wp2_with fail
 refine(C11.out _ _ HB.out rfl).mono ?_
 rintro e w3 ⟨rfl,hb⟩
 replace HB:=Lib.hid (HB.out.trans (hb.mono HB.out.size))
 clear hb
 have R1:=RH.out.up HB.out
 have c6:=R1.cs.c 6 _ rfl
 have c11:=R1.cs.c 11 _ rfl
 obtain⟨b',off,hB,_,d0,_⟩:=R1.rd.ws.atI hlt
 obtain⟨rfl,rfl⟩:b=b'∧0=off:=by injection hB with hB;injection hB with h1 h2;exact⟨h1,h2⟩
 rw[Nat.zero_add] at d0
 obtain⟨_,_,_,fd⟩:=R1.ws.cell_ hlt
 have f0:=fd k
 have z1:=R1.bB.2
 have z2:=R1.cs.lt
 rw[HS.out] at c11
 simp only[ownF] at c6
 have hw:IntKind.i64.wrap (s.waiting[k]-1)=s.waiting[k]-1:=IntWalk.i64_in _ (by omega)
 clear R1 fd hB
 go_wp2_with fail
 refine wp_region_still_tail 14 (by kernel_rfl) (by kernel_rfl) ?_
 simp only[List.take_succ_cons,List.take_zero,List.drop_succ_cons,List.drop_zero,World.drew_eq]
 repeat still_step
 refine wpStill_nil ?_
 go_wp2_with fail
 obtain⟨R4,ho4⟩:=(RH.out.up HB.out).putWait hlt (x:=s.waiting[k]-1) ⟨by omega,by omega⟩
 have HO:=Lib.hid (((Only3.of g a b HB.out).trans ho4).drew)
 have RH4:=Lib.hid (R4.up (bdd (Below.refl _ _)))
 clear R4 ho4 c6 c11 d0 f0
 refine(S.out _ _ _ RH4.out _ (Below.refl _ _)).mono ?_
 rintro e w6 ⟨rfl,hb⟩
 replace HO:=Lib.hid (HO.out.trans (Only3.of g a b hb))
 replace RH4:=Lib.hid (RH4.out.up hb)
 clear hb
 go_wp2_with fail
 refine bodyPost_ret (results_none rfl _ _ _) rfl ?_
 exact⟨rfl,RH4.out,HO.out⟩
set_option maxRecDepth 100000 in
set_option maxHeartbeats 4000000 in
theorem learn10_any {w0 W:World} {g a b:Nat} {V:Option Addr} {vc:Nat} {s:Au} {op:MOp} {rp:MRp} (R:RdO w0 W g a b V vc s op rp) (hk:op.kind=10) {k:Nat} (hs:op.section_=(k:Int)) (hlt:k<s.waiting.length) (hlt2:k<s.ve.secs.length) (hb1:0≤s.waiting[k]) (hb2:s.waiting[k]≤64):
 Calls Tryz.prog 83 #[.pointer (some ⟨g,0,none⟩)] W (LearnPost w0 W g a b V vc (learnA s op rp) op rp):=by
 obtain⟨q,hQ⟩:∃q,s.ve.secs[k].queue=q:=⟨_,rfl⟩
 have hL:learnA s op rp={s with waiting:=s.waiting.set k (min (s.waiting[k]+1) q)}:=by simp[hQ,learnA,isB,hk,hs,waitOf,queueOf,List.getElem?_eq_getElem hlt,List.getElem?_eq_getElem hlt2]
 rw[hL]
 clear hL
 have C2:=Lib.hid (R.rd.isC [2,3] (by simp[Bd]) (by simp))
 rw[show isB [2,3] op.kind=false by rw[hk];rfl] at C2
 have C10:=Lib.hid (R.rd.isC [10] (by simp[Bd]) (by simp))
 rw[show isB [10] op.kind=true by rw[hk];rfl] at C10
 have C11:=Lib.hid (R.rd.isC [11] (by simp[Bd]) (by simp))
 rw[show isB [11] op.kind=false by rw[hk];rfl] at C11
 have C12:=Lib.hid (R.rd.isC [12] (by simp[Bd]) (by simp))
 rw[show isB [12] op.kind=false by rw[hk];rfl] at C12
 have S:=Lib.hid (fun w W0 s' (R:RdO w W0 g a b V vc s' op rp)=>R.rd.seatG)
 rw[show seatA op= -1 by simp[seatA,hk]] at S
 have RH:=Lib.hid R
 have HS:=Lib.hid hs
 clear R hs
 go_enter Tryz.func83,Tryz.ntmps83
 go_wp2_with fail
 refine(C2.out _ _ (Below.refl _ _) rfl).mono ?_
 rintro e w1 ⟨rfl,hb⟩
 have HB:=Lib.hid hb
 clear hb
 go_wp2_with fail
 refine(C10.out _ _ HB.out rfl).mono ?_
 rintro e w2 ⟨rfl,hb⟩
 replace HB:=Lib.hid (HB.out.trans (hb.mono HB.out.size))
 clear hb
 have R1:=RH.out.up HB.out
 have c3:=R1.cs.c 3 _ rfl
 have c6:=R1.cs.c 6 _ rfl
 have c11:=R1.cs.c 11 _ rfl
 obtain⟨b',off,hB,_,d0,_⟩:=R1.rd.ws.atI hlt
 obtain⟨rfl,rfl⟩:b=b'∧0=off:=by injection hB with hB;injection hB with h1 h2;exact⟨h1,h2⟩
 rw[Nat.zero_add] at d0
 obtain⟨bs,os,A',c',hV,hbs,_,_,q2,_,hq,_⟩:=R1.rd.vs.atS hlt2
 obtain⟨_,_,_,fd⟩:=R1.ws.cell_ hlt
 have f0:=fd k
 have z1:=R1.bB.2
 have z2:=R1.cs.lt
 rw[HS.out] at c11
 simp only[ownF] at c3 c6 hV
 subst hV
 have hw:IntKind.i64.wrap (s.waiting[k]+1)=s.waiting[k]+1:=IntWalk.i64_in _ (by omega)
 rw[hQ] at q2 hq
 clear hQ
 clear R1 fd hB
 go_wp2_with fail
 refine wp_region_still_tail 39 (by kernel_rfl) (by kernel_rfl) ?_
 simp only[List.take_succ_cons,List.take_zero,List.drop_succ_cons,List.drop_zero,World.drew_eq]
 repeat still_step
 refine wpStill_nil ?_
 go_wp2_with fail
 obtain⟨R4,ho4⟩:=(RH.out.up HB.out).putWait hlt (x:=min (s.waiting[k]+1) q) ⟨by unfold Bd at hq;omega,by unfold Bd at hq;omega⟩
 have HO:=Lib.hid (((Only3.of g a b HB.out).trans ho4).drew)
 have RH4:=Lib.hid (R4.up (bdd (Below.refl _ _)))
 clear R4 ho4 c3 c6 c11 d0 f0
 refine(S.out _ _ _ RH4.out _ (Below.refl _ _)).mono ?_
 rintro e w6 ⟨rfl,hb⟩
 replace HO:=Lib.hid (HO.out.trans (Only3.of g a b hb))
 replace RH4:=Lib.hid (RH4.out.up hb)
 clear hb
 go_wp2_with fail
 refine bodyPost_ret (results_none rfl _ _ _) rfl ?_
 exact⟨rfl,RH4.out,HO.out⟩
end Go.Proofs.YtlckmjiioohcmaaGreatDoor

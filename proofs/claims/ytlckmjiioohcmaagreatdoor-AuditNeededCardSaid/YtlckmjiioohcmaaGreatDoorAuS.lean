/-
  Walk of the audit reader's method learn: a revocation, a purchase, a transfer. Conditions: as each theorem says.
-/
import Derived.Test.YtlckmjiioohcmaaGreatDoorAuR
import Derived.BigRegion
namespace Go.Proofs.YtlckmjiioohcmaaGreatDoor
open Go.RowKit
theorem RdO.put3 {w0 W:World} {g a b:Nat} {V:Option Addr} {vc:Nat} {s:Au} {op:MOp} {rp:MRp} (R:RdO w0 W g a b V vc s op rp) {k:Nat} (hk:k<s.seats.length) {x:Se} {o:Int} (hx:s.seats[k]=freeS x) (ho:U32 o) (h1:U64 x.serial) (h2:U64 (x.serial+1)) (h3:U64 x.epoch):
 RdO w0 (((W.setCell ⟨a,k*6+0,none⟩ (.bool true)).setCell ⟨a,k*6+2,none⟩ (.int .u32 o)).setCell ⟨a,k*6+4,none⟩ (.int .u64 (x.serial+1))) g a b V vc {s with seats:=s.seats.set k (soldS o x)} op rp∧
  Only3 g a b W (((W.setCell ⟨a,k*6+0,none⟩ (.bool true)).setCell ⟨a,k*6+2,none⟩ (.int .u32 o)).setCell ⟨a,k*6+4,none⟩ (.int .u64 (x.serial+1))):=by
 obtain⟨R6,ho6⟩:=R.putField hk (j:=0) (by omega) (u:=.bool true) (x:=⟨true,false,0,0,x.serial,x.epoch⟩) ⟨by simp[U32],by simp[Bd],h1,h3⟩ (by rw[hx];rfl)
 have l1:k<(s.seats.set k ⟨true,false,0,0,x.serial,x.epoch⟩).length:=by simpa using hk
 obtain⟨R7,ho7⟩:=R6.putField (k:=k) l1 (j:=2) (by omega) (u:=.int .u32 o) (x:=⟨true,false,o,0,x.serial,x.epoch⟩) ⟨ho,by simp[Bd],h1,h3⟩
  (by show(seCells ((s.seats.set k ⟨true,false,0,0,x.serial,x.epoch⟩)[k]'l1)).set 2 _=_;rw[List.getElem_set_self];rfl)
 have l2:k<((s.seats.set k ⟨true,false,0,0,x.serial,x.epoch⟩).set k ⟨true,false,o,0,x.serial,x.epoch⟩).length:=by simpa using hk
 obtain⟨R8,ho8⟩:=R7.putField (k:=k) l2 (j:=4) (by omega) (u:=.int .u64 (x.serial+1)) (x:=soldS o x) ⟨ho,by simp[soldS,Bd],h2,h3⟩
  (by show(seCells (((s.seats.set k ⟨true,false,0,0,x.serial,x.epoch⟩).set k ⟨true,false,o,0,x.serial,x.epoch⟩)[k]'l2)).set 4 _=_;rw[List.getElem_set_self];rfl)
 rw[List.set_set,List.set_set] at R8
 exact⟨R8,(ho6.trans ho7).trans ho8⟩
set_option maxRecDepth 100000 in
set_option maxHeartbeats 4000000 in
theorem learn8_any {w0 W:World} {g a b:Nat} {V:Option Addr} {vc:Nat} {s:Au} {op:MOp} {rp:MRp} (R:RdO w0 W g a b V vc s op rp) (hk:op.kind=8) {k:Nat} (hs:seatA op=(k:Int)) (hlt:k<s.seats.length) (hne:s.seats[k].epoch<18446744073709551615):
 Calls Tryz.prog 83 #[.pointer (some ⟨g,0,none⟩)] W (LearnPost w0 W g a b V vc (learnA s op rp) op rp):=by
 have hL:learnA s op rp={s with seats:=s.seats.set k (revS s.seats[k])}:=by simp[learnA,isB,hk,hs,seatMod,List.getElem?_eq_getElem hlt]
 rw[hL]
 clear hL
 have C2:=Lib.hid (R.rd.isC [2,3] (by simp[Bd]) (by simp))
 rw[show isB [2,3] op.kind=false by rw[hk];rfl] at C2
 have C10:=Lib.hid (R.rd.isC [10] (by simp[Bd]) (by simp))
 rw[show isB [10] op.kind=false by rw[hk];rfl] at C10
 have C11:=Lib.hid (R.rd.isC [11] (by simp[Bd]) (by simp))
 rw[show isB [11] op.kind=false by rw[hk];rfl] at C11
 have C12:=Lib.hid (R.rd.isC [12] (by simp[Bd]) (by simp))
 rw[show isB [12] op.kind=false by rw[hk];rfl] at C12
 have C9:=Lib.hid (R.rd.isC [9] (by simp[Bd]) (by simp))
 rw[show isB [9] op.kind=false by rw[hk];rfl] at C9
 have S:=Lib.hid (fun w (hw:Below W.heap.size W w)=>(R.rd.seatG w hw))
 rw[hs] at S
 obtain⟨_,_,_,_,_,_,_,_,_,_,hx0,hx1,hx2,hx3⟩:=R.rd.ss.atE hlt
 have RH:=Lib.hid R
 clear R hs
 go_enter Tryz.func83,Tryz.ntmps83
 go_wp2_with fail
 refine(C2.out _ _ (Below.refl _ _) rfl).mono ?_
 rintro e w1 ⟨rfl,hb⟩
 have HB:=Lib.hid hb
 clear hb
 go_wp2_with fail
 refine(C10.out _ _ HB.out rfl).mono ?_
 rintro e w2 ⟨rfl,hb⟩
 replace HB:=Lib.hid (HB.out.trans (hb.mono HB.out.size))
 clear hb
 go_wp2_with fail
 refine(C11.out _ _ HB.out rfl).mono ?_
 rintro e w3 ⟨rfl,hb⟩
 replace HB:=Lib.hid (HB.out.trans (hb.mono HB.out.size))
 clear hb
 go_wp2_with fail
 refine(C12.out _ _ HB.out rfl).mono ?_
 rintro e w4 ⟨rfl,hb⟩
 replace HB:=Lib.hid (HB.out.trans (hb.mono HB.out.size))
 clear hb
 go_wp2_with fail
 refine(S.out _ HB.out).mono ?_
 rintro e w5 ⟨rfl,hb⟩
 replace HB:=Lib.hid (HB.out.trans (hb.mono HB.out.size))
 clear hb
 go_wp2_with fail
 refine(C9.out _ _ HB.out rfl).mono ?_
 rintro e w6 ⟨rfl,hb⟩
 replace HB:=Lib.hid (HB.out.trans (hb.mono HB.out.size))
 clear hb
 have R1:=RH.out.up HB.out
 have c5:=gro_cell (R1.cs.c 5 _ rfl)
 simp only[ownF] at c5
 have z1:=R1.aB.2
 have z2:=R1.cs.lt
 clear R1
 go_wp2_with fail
 refine wp_region_gro (by kernel_rfl) (by kernel_rfl) ?_
 repeat(go_big_quiet_step (first|(go_at_call 119;exact Calls.gro_of (S.out _ (HB.out.trans ((gro_below _ _).mono HB.out.size))))|fail))
 refine wpQuiet_nil ?_
 refine gro_end fun W7 hb7=> ?_
 replace HB:=Lib.hid (HB.out.trans (hb7.mono HB.out.size))
 clear hb7 c5
 have R1:=RH.out.up HB.out
 have z1:=R1.aB.2
 have z2:=R1.cs.lt
 obtain⟨cs,⟨rfl,_⟩,hcs,fd⟩:=R1.ss.cell_ hlt
 have d0:=hcs 0 _ rfl
 have d1:=hcs 1 _ rfl
 have d2:=hcs 2 _ rfl
 have d3:=hcs 3 _ rfl
 have d4:=hcs 4 _ rfl
 have d5:=hcs 5 _ rfl
 simp only[seR,Nat.add_zero] at d0 d1 d2 d3 d4 d5
 have f0:=fd (k*6)
 have f1:=fd (k*6+1)
 have f2:=fd (k*6+2)
 have f3:=fd (k*6+3)
 have f4:=fd (k*6+4)
 have f5:=fd (k*6+5)
 clear R1 hcs fd
 go_wp2_with fail
 refine wp_region_still_tail 11 (by kernel_rfl) (by kernel_rfl) ?_
 simp only[List.take_succ_cons,List.take_zero,List.drop_succ_cons,List.drop_zero,World.drew_eq]
 repeat still_step
 refine wpStill_nil ?_
 go_wp2_with fail
 obtain⟨R4,ho4⟩:=(RH.out.up HB.out).putSeat hlt (x:=freeS s.seats[k]) ⟨by simp[freeS,U32],by simp[freeS,Bd],hx2,hx3⟩
 have HO:=Lib.hid (((Only3.of g a b HB.out).trans ho4).drew)
 have RH4:=Lib.hid (R4.up (bdd (Below.refl _ _)))
 simp only[putAt,seCells,freeS,Nat.add_assoc,Nat.reduceAdd] at HO RH4
 clear R4 ho4 d0 d1 d2 d3 d4 d5 f0 f1 f2 f3 f4 f5
 have C5:=Lib.hid (RH4.out.rd.isC [5] (by simp[Bd]) (by simp))
 rw[show isB [5] op.kind=false by rw[hk];rfl] at C5
 have C6:=Lib.hid (RH4.out.rd.isC [6] (by simp[Bd]) (by simp))
 rw[show isB [6] op.kind=false by rw[hk];rfl] at C6
 have C8:=Lib.hid (RH4.out.rd.isC [8] (by simp[Bd]) (by simp))
 rw[show isB [8] op.kind=true by rw[hk];rfl] at C8
 refine(C5.out _ W7.heap.size (Below.refl _ _) (by simp)).mono ?_
 rintro e w8 ⟨rfl,hb⟩
 have HB4:=Lib.hid hb
 clear hb
 go_wp2_with fail
 refine(C6.out _ _ HB4.out rfl).mono ?_
 rintro e w9 ⟨rfl,hb⟩
 replace HB4:=Lib.hid (HB4.out.trans (hb.mono HB4.out.size))
 clear hb
 go_wp2_with fail
 refine(C8.out _ _ HB4.out rfl).mono ?_
 rintro e w10 ⟨rfl,hb⟩
 replace HB4:=Lib.hid (HB4.out.trans (hb.mono HB4.out.size))
 clear hb
 have R5:=RH4.out.up HB4.out
 have hlt':k<(s.seats.set k (freeS s.seats[k])).length:=by simpa using hlt
 obtain⟨cs,hcs0,hcs,fd⟩:=R5.ss.cell_ hlt'
 change seR.is _ cs (s.seats.set k (freeS s.seats[k]))[k] at hcs0
 rw[List.getElem_set_self] at hcs0
 obtain⟨rfl,_⟩:=hcs0
 simp only[freeS,seR] at hcs
 have d0:=hcs 0 _ rfl
 have d2:=hcs 2 _ rfl
 have d4:=hcs 4 _ rfl
 have d5:=hcs 5 _ rfl
 simp only[Nat.add_zero] at d0 d2 d4 d5
 have f0:=fd (k*6)
 have f2:=fd (k*6+2)
 have f4:=fd (k*6+4)
 have f5:=fd (k*6+5)
 have z3:=R5.aB.2
 clear R5 hcs fd d0 d2 d4 f0 f2 f4
 unfold U64 at hx2 hx3
 go_wp2_with fail
 obtain⟨R6,ho6⟩:=(RH4.out.up HB4.out).putField (k:=k) hlt' (j:=5) (by omega) (u:=.int .u64 (s.seats[k].epoch+1)) (x:=revS s.seats[k]) ⟨by simp[revS,U32],by simp[revS,Bd],hx2,by simp only[revS,U64];omega⟩ (by show(seCells (s.seats.set k (freeS s.seats[k]))[k]).set 5 _=_;rw[List.getElem_set_self];rfl)
 rw[List.set_set] at R6
 refine bodyPost_end (results_none rfl _ _ _) rfl ?_
 exact⟨rfl,R6,(HO.out.trans (Only3.of _ _ _ HB4.out)).trans ho6⟩
set_option maxRecDepth 100000 in
set_option maxHeartbeats 4000000 in
theorem learn5_any {w0 W:World} {g a b:Nat} {V:Option Addr} {vc:Nat} {s:Au} {op:MOp} {rp:MRp} (R:RdO w0 W g a b V vc s op rp) (hk:op.kind=5) {k:Nat} (hs:seatA op=(k:Int)) (hlt:k<s.seats.length) (hne:s.seats[k].serial<18446744073709551615):
 Calls Tryz.prog 83 #[.pointer (some ⟨g,0,none⟩)] W (LearnPost w0 W g a b V vc (learnA s op rp) op rp):=by
 have hL:learnA s op rp={s with seats:=s.seats.set k (soldS op.owner s.seats[k])}:=by simp[learnA,isB,hk,hs,seatMod,List.getElem?_eq_getElem hlt]
 rw[hL]
 clear hL
 have C2:=Lib.hid (R.rd.isC [2,3] (by simp[Bd]) (by simp))
 rw[show isB [2,3] op.kind=false by rw[hk];rfl] at C2
 have C10:=Lib.hid (R.rd.isC [10] (by simp[Bd]) (by simp))
 rw[show isB [10] op.kind=false by rw[hk];rfl] at C10
 have C11:=Lib.hid (R.rd.isC [11] (by simp[Bd]) (by simp))
 rw[show isB [11] op.kind=false by rw[hk];rfl] at C11
 have C12:=Lib.hid (R.rd.isC [12] (by simp[Bd]) (by simp))
 rw[show isB [12] op.kind=false by rw[hk];rfl] at C12
 have C9:=Lib.hid (R.rd.isC [9] (by simp[Bd]) (by simp))
 rw[show isB [9] op.kind=false by rw[hk];rfl] at C9
 have S:=Lib.hid (fun w (hw:Below W.heap.size W w)=>(R.rd.seatG w hw))
 rw[hs] at S
 obtain⟨_,_,_,_,_,_,_,_,_,_,hx0,hx1,hx2,hx3⟩:=R.rd.ss.atE hlt
 have RH:=Lib.hid R
 clear R hs
 go_enter Tryz.func83,Tryz.ntmps83
 go_wp2_with fail
 refine(C2.out _ _ (Below.refl _ _) rfl).mono ?_
 rintro e w1 ⟨rfl,hb⟩
 have HB:=Lib.hid hb
 clear hb
 go_wp2_with fail
 refine(C10.out _ _ HB.out rfl).mono ?_
 rintro e w2 ⟨rfl,hb⟩
 replace HB:=Lib.hid (HB.out.trans (hb.mono HB.out.size))
 clear hb
 go_wp2_with fail
 refine(C11.out _ _ HB.out rfl).mono ?_
 rintro e w3 ⟨rfl,hb⟩
 replace HB:=Lib.hid (HB.out.trans (hb.mono HB.out.size))
 clear hb
 go_wp2_with fail
 refine(C12.out _ _ HB.out rfl).mono ?_
 rintro e w4 ⟨rfl,hb⟩
 replace HB:=Lib.hid (HB.out.trans (hb.mono HB.out.size))
 clear hb
 go_wp2_with fail
 refine(S.out _ HB.out).mono ?_
 rintro e w5 ⟨rfl,hb⟩
 replace HB:=Lib.hid (HB.out.trans (hb.mono HB.out.size))
 clear hb
 go_wp2_with fail
 refine(C9.out _ _ HB.out rfl).mono ?_
 rintro e w6 ⟨rfl,hb⟩
 replace HB:=Lib.hid (HB.out.trans (hb.mono HB.out.size))
 clear hb
 have R1:=RH.out.up HB.out
 have c5:=gro_cell (R1.cs.c 5 _ rfl)
 simp only[ownF] at c5
 have z1:=R1.aB.2
 have z2:=R1.cs.lt
 clear R1
 go_wp2_with fail
 refine wp_region_gro (by kernel_rfl) (by kernel_rfl) ?_
 repeat(go_big_quiet_step (first|(go_at_call 119;exact Calls.gro_of (S.out _ (HB.out.trans ((gro_below _ _).mono HB.out.size))))|fail))
 refine wpQuiet_nil ?_
 refine gro_end fun W7 hb7=> ?_
 replace HB:=Lib.hid (HB.out.trans (hb7.mono HB.out.size))
 clear hb7 c5
 have R1:=RH.out.up HB.out
 have z1:=R1.aB.2
 have z2:=R1.cs.lt
 obtain⟨cs,⟨rfl,_⟩,hcs,fd⟩:=R1.ss.cell_ hlt
 have d0:=hcs 0 _ rfl
 have d1:=hcs 1 _ rfl
 have d2:=hcs 2 _ rfl
 have d3:=hcs 3 _ rfl
 have d4:=hcs 4 _ rfl
 have d5:=hcs 5 _ rfl
 simp only[seR,Nat.add_zero] at d0 d1 d2 d3 d4 d5
 have f0:=fd (k*6)
 have f1:=fd (k*6+1)
 have f2:=fd (k*6+2)
 have f3:=fd (k*6+3)
 have f4:=fd (k*6+4)
 have f5:=fd (k*6+5)
 clear R1 hcs fd
 go_wp2_with fail
 refine wp_region_still_tail 11 (by kernel_rfl) (by kernel_rfl) ?_
 simp only[List.take_succ_cons,List.take_zero,List.drop_succ_cons,List.drop_zero,World.drew_eq]
 repeat still_step
 refine wpStill_nil ?_
 go_wp2_with fail
 obtain⟨R4,ho4⟩:=(RH.out.up HB.out).putSeat hlt (x:=freeS s.seats[k]) ⟨by simp[freeS,U32],by simp[freeS,Bd],hx2,hx3⟩
 have HO:=Lib.hid (((Only3.of g a b HB.out).trans ho4).drew)
 have RH4:=Lib.hid (R4.up (bdd (Below.refl _ _)))
 simp only[putAt,seCells,freeS,Nat.add_assoc,Nat.reduceAdd] at HO RH4
 clear R4 ho4 d0 d1 d2 d3 d4 d5 f0 f1 f2 f3 f4 f5
 have C5:=Lib.hid (RH4.out.rd.isC [5] (by simp[Bd]) (by simp))
 rw[show isB [5] op.kind=true by rw[hk];rfl] at C5
 refine(C5.out _ W7.heap.size (Below.refl _ _) (by simp)).mono ?_
 rintro e w8 ⟨rfl,hb⟩
 have HB4:=Lib.hid hb
 clear hb
 have R5:=RH4.out.up HB4.out
 have hlt':k<(s.seats.set k (freeS s.seats[k])).length:=by simpa using hlt
 obtain⟨cs,hcs0,hcs,fd⟩:=R5.ss.cell_ hlt'
 change seR.is _ cs (s.seats.set k (freeS s.seats[k]))[k] at hcs0
 rw[List.getElem_set_self] at hcs0
 obtain⟨rfl,_⟩:=hcs0
 simp only[freeS,seR] at hcs
 have d0:=hcs 0 _ rfl
 have d2:=hcs 2 _ rfl
 have d4:=hcs 4 _ rfl
 have d5:=hcs 5 _ rfl
 simp only[Nat.add_zero] at d0 d2 d4 d5
 have f0:=fd (k*6)
 have f2:=fd (k*6+2)
 have f4:=fd (k*6+4)
 have f5:=fd (k*6+5)
 have z3:=R5.aB.2
 have hU:U32 op.owner:=R5.bo.2.1
 have c8:=R5.cs.c 8 _ rfl
 have z4:=R5.cs.lt
 clear R5 hcs fd d5 f5
 unfold U64 at hx2
 have hw:IntKind.u64.wrap (s.seats[k].serial+1)=s.seats[k].serial+1:=IntWalk.u64_in _ (by omega)
 go_wp2_with fail
 go_region
 go_wp2_with fail
 obtain⟨R8,ho8⟩:=(RH4.out.up HB4.out).put3 (k:=k) hlt' (x:=s.seats[k]) (o:=op.owner) (by show(s.seats.set k (freeS s.seats[k]))[k]'hlt'=_;rw[List.getElem_set_self]) hU hx2 (by unfold U64;omega) hx3
 rw[List.set_set] at R8
 refine bodyPost_end (results_none rfl _ _ _) rfl ?_
 exact⟨rfl,R8.up (bdd (Below.refl _ _)),((HO.out.trans (Only3.of _ _ _ HB4.out)).trans ho8).drew⟩
set_option maxRecDepth 100000 in
set_option maxHeartbeats 4000000 in
theorem learn6_any {w0 W:World} {g a b:Nat} {V:Option Addr} {vc:Nat} {s:Au} {op:MOp} {rp:MRp} (R:RdO w0 W g a b V vc s op rp) (hk:op.kind=6) {k:Nat} (hs:seatA op=(k:Int)) (hlt:k<s.seats.length) (hne:s.seats[k].serial<18446744073709551615):
 Calls Tryz.prog 83 #[.pointer (some ⟨g,0,none⟩)] W (LearnPost w0 W g a b V vc (learnA s op rp) op rp):=by
 have hL:learnA s op rp={s with seats:=s.seats.set k (soldS op.to s.seats[k])}:=by simp[learnA,isB,hk,hs,seatMod,List.getElem?_eq_getElem hlt]
 rw[hL]
 clear hL
 have C2:=Lib.hid (R.rd.isC [2,3] (by simp[Bd]) (by simp))
 rw[show isB [2,3] op.kind=false by rw[hk];rfl] at C2
 have C10:=Lib.hid (R.rd.isC [10] (by simp[Bd]) (by simp))
 rw[show isB [10] op.kind=false by rw[hk];rfl] at C10
 have C11:=Lib.hid (R.rd.isC [11] (by simp[Bd]) (by simp))
 rw[show isB [11] op.kind=false by rw[hk];rfl] at C11
 have C12:=Lib.hid (R.rd.isC [12] (by simp[Bd]) (by simp))
 rw[show isB [12] op.kind=false by rw[hk];rfl] at C12
 have C9:=Lib.hid (R.rd.isC [9] (by simp[Bd]) (by simp))
 rw[show isB [9] op.kind=false by rw[hk];rfl] at C9
 have S:=Lib.hid (fun w (hw:Below W.heap.size W w)=>(R.rd.seatG w hw))
 rw[hs] at S
 obtain⟨_,_,_,_,_,_,_,_,_,_,hx0,hx1,hx2,hx3⟩:=R.rd.ss.atE hlt
 have RH:=Lib.hid R
 clear R hs
 go_enter Tryz.func83,Tryz.ntmps83
 go_wp2_with fail
 refine(C2.out _ _ (Below.refl _ _) rfl).mono ?_
 rintro e w1 ⟨rfl,hb⟩
 have HB:=Lib.hid hb
 clear hb
 go_wp2_with fail
 refine(C10.out _ _ HB.out rfl).mono ?_
 rintro e w2 ⟨rfl,hb⟩
 replace HB:=Lib.hid (HB.out.trans (hb.mono HB.out.size))
 clear hb
 go_wp2_with fail
 refine(C11.out _ _ HB.out rfl).mono ?_
 rintro e w3 ⟨rfl,hb⟩
 replace HB:=Lib.hid (HB.out.trans (hb.mono HB.out.size))
 clear hb
 go_wp2_with fail
 refine(C12.out _ _ HB.out rfl).mono ?_
 rintro e w4 ⟨rfl,hb⟩
 replace HB:=Lib.hid (HB.out.trans (hb.mono HB.out.size))
 clear hb
 go_wp2_with fail
 refine(S.out _ HB.out).mono ?_
 rintro e w5 ⟨rfl,hb⟩
 replace HB:=Lib.hid (HB.out.trans (hb.mono HB.out.size))
 clear hb
 go_wp2_with fail
 refine(C9.out _ _ HB.out rfl).mono ?_
 rintro e w6 ⟨rfl,hb⟩
 replace HB:=Lib.hid (HB.out.trans (hb.mono HB.out.size))
 clear hb
 have R1:=RH.out.up HB.out
 have c5:=gro_cell (R1.cs.c 5 _ rfl)
 simp only[ownF] at c5
 have z1:=R1.aB.2
 have z2:=R1.cs.lt
 clear R1
 go_wp2_with fail
 refine wp_region_gro (by kernel_rfl) (by kernel_rfl) ?_
 repeat(go_big_quiet_step (first|(go_at_call 119;exact Calls.gro_of (S.out _ (HB.out.trans ((gro_below _ _).mono HB.out.size))))|fail))
 refine wpQuiet_nil ?_
 refine gro_end fun W7 hb7=> ?_
 replace HB:=Lib.hid (HB.out.trans (hb7.mono HB.out.size))
 clear hb7 c5
 have R1:=RH.out.up HB.out
 have z1:=R1.aB.2
 have z2:=R1.cs.lt
 obtain⟨cs,⟨rfl,_⟩,hcs,fd⟩:=R1.ss.cell_ hlt
 have d0:=hcs 0 _ rfl
 have d1:=hcs 1 _ rfl
 have d2:=hcs 2 _ rfl
 have d3:=hcs 3 _ rfl
 have d4:=hcs 4 _ rfl
 have d5:=hcs 5 _ rfl
 simp only[seR,Nat.add_zero] at d0 d1 d2 d3 d4 d5
 have f0:=fd (k*6)
 have f1:=fd (k*6+1)
 have f2:=fd (k*6+2)
 have f3:=fd (k*6+3)
 have f4:=fd (k*6+4)
 have f5:=fd (k*6+5)
 clear R1 hcs fd
 go_wp2_with fail
 refine wp_region_still_tail 11 (by kernel_rfl) (by kernel_rfl) ?_
 simp only[List.take_succ_cons,List.take_zero,List.drop_succ_cons,List.drop_zero,World.drew_eq]
 repeat still_step
 refine wpStill_nil ?_
 go_wp2_with fail
 obtain⟨R4,ho4⟩:=(RH.out.up HB.out).putSeat hlt (x:=freeS s.seats[k]) ⟨by simp[freeS,U32],by simp[freeS,Bd],hx2,hx3⟩
 have HO:=Lib.hid (((Only3.of g a b HB.out).trans ho4).drew)
 have RH4:=Lib.hid (R4.up (bdd (Below.refl _ _)))
 simp only[putAt,seCells,freeS,Nat.add_assoc,Nat.reduceAdd] at HO RH4
 clear R4 ho4 d0 d1 d2 d3 d4 d5 f0 f1 f2 f3 f4 f5
 have C5:=Lib.hid (RH4.out.rd.isC [5] (by simp[Bd]) (by simp))
 rw[show isB [5] op.kind=false by rw[hk];rfl] at C5
 have C6:=Lib.hid (RH4.out.rd.isC [6] (by simp[Bd]) (by simp))
 rw[show isB [6] op.kind=true by rw[hk];rfl] at C6
 refine(C5.out _ W7.heap.size (Below.refl _ _) (by simp)).mono ?_
 rintro e w8 ⟨rfl,hb⟩
 have HB4:=Lib.hid hb
 clear hb
 go_wp2_with fail
 refine(C6.out _ _ HB4.out rfl).mono ?_
 rintro e w9 ⟨rfl,hb⟩
 replace HB4:=Lib.hid (HB4.out.trans (hb.mono HB4.out.size))
 clear hb
 have R5:=RH4.out.up HB4.out
 have hlt':k<(s.seats.set k (freeS s.seats[k])).length:=by simpa using hlt
 obtain⟨cs,hcs0,hcs,fd⟩:=R5.ss.cell_ hlt'
 change seR.is _ cs (s.seats.set k (freeS s.seats[k]))[k] at hcs0
 rw[List.getElem_set_self] at hcs0
 obtain⟨rfl,_⟩:=hcs0
 simp only[freeS,seR] at hcs
 have d0:=hcs 0 _ rfl
 have d2:=hcs 2 _ rfl
 have d4:=hcs 4 _ rfl
 have d5:=hcs 5 _ rfl
 simp only[Nat.add_zero] at d0 d2 d4 d5
 have f0:=fd (k*6)
 have f2:=fd (k*6+2)
 have f4:=fd (k*6+4)
 have f5:=fd (k*6+5)
 have z3:=R5.aB.2
 have hU:U32 op.to:=R5.bo.2.2.2.2.2.2.1
 have c8:=R5.cs.c 13 _ rfl
 have z4:=R5.cs.lt
 clear R5 hcs fd d5 f5
 unfold U64 at hx2
 have hw:IntKind.u64.wrap (s.seats[k].serial+1)=s.seats[k].serial+1:=IntWalk.u64_in _ (by omega)
 go_wp2_with fail
 go_region
 go_wp2_with fail
 obtain⟨R8,ho8⟩:=(RH4.out.up HB4.out).put3 (k:=k) hlt' (x:=s.seats[k]) (o:=op.to) (by show(s.seats.set k (freeS s.seats[k]))[k]'hlt'=_;rw[List.getElem_set_self]) hU hx2 (by unfold U64;omega) hx3
 rw[List.set_set] at R8
 refine bodyPost_end (results_none rfl _ _ _) rfl ?_
 exact⟨rfl,R8.up (bdd (Below.refl _ _)),((HO.out.trans (Only3.of _ _ _ HB4.out)).trans ho8).drew⟩
end Go.Proofs.YtlckmjiioohcmaaGreatDoor

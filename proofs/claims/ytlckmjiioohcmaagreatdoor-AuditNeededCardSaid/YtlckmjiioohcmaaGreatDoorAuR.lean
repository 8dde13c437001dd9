/-
  Walk of the audit reader's method learn: steps that change one seat. Conditions: as each theorem says.
-/
import Derived.Test.YtlckmjiioohcmaaGreatDoorAuQ
import Derived.BigRegion
namespace Go.Proofs.YtlckmjiioohcmaaGreatDoor
open Go.RowKit
theorem setAll_one (cells:List Value) (off:Nat) (u:Value):setAll cells off [u]=cells.set off u:=by simp[setAll]
theorem many_setE {w:World} {j:Nat} {u:Value} {x:Se} (hj:j<6) (hx:SeOk x):∀{ys:List Se} {k:Nat} {cells:List Value},seR.many w cells ys→(hk:k<ys.length)→(seCells ys[k]).set j u=seCells x→seR.many w (cells.set (k*6+j) u) (ys.set k x)
 |[],k,_,_,hk,_=>by simp at hk
 |y::ys,0,_,⟨cs,rest,e,h1,h2⟩,_,he=>by
  obtain⟨rfl,_⟩:=h1
  subst e
  refine⟨seCells x,rest, ?_,⟨rfl,hx⟩,h2⟩
  rw[←he,Nat.zero_mul,Nat.zero_add,List.set_append_left _ _ (by simpa using hj)]
  rfl
 |y::ys,k+1,_,⟨cs,rest,e,h1,h2⟩,hk,he=>by
  have hl:=seR.len h1
  subst e
  refine⟨cs,rest.set (k*6+j) u, ?_,h1,many_setE hj hx h2 (by simpa using hk) (by simpa using he)⟩
  rw[List.set_append_right _ _ (by rw[hl];simp only[seR];omega),hl]
  simp only[seR]
  rw[show(k+1)*6+j-6=k*6+j by omega]
theorem RdO.putField {w0 W:World} {g a b:Nat} {V:Option Addr} {vc:Nat} {s:Au} {op:MOp} {rp:MRp} (h:RdO w0 W g a b V vc s op rp) {k:Nat} (hk:k<s.seats.length) {j:Nat} (hj:j<6) {u:Value} {x:Se} (hx:SeOk x)
 (he:(seCells s.seats[k]).set j u=seCells x):
 RdO w0 (W.setCell ⟨a,k*6+j,none⟩ u) g a b V vc {s with seats:=s.seats.set k x} op rp∧Only3 g a b W (W.setCell ⟨a,k*6+j,none⟩ u):=by
 have hg:=grownBy_set W a (k*6+j) u
 have ho:=Only3.grown (g:=g) (a:=a) (b:=b) hg (.inr (.inl rfl))
 refine⟨⟨h.only ho,h.gB,h.ga,h.gb,h.ab, ?_,h.vs, ?_, ?_,h.bv,h.bn,h.bo,h.br⟩,ho⟩
 ·have:=h.cs.grown hg (fun e=>h.ga (by cases e;rfl))
  simp only[auCells,ownF,List.length_set] at this⊢
  exact this
 ·show Own seR _ _ _ (.slice _ (s.seats.set k x).length (s.seats.set k x).length) (s.seats.set k x)
  rw[List.length_set]
  obtain⟨cells,h1,h2⟩:=h.ss
  have h3:=(owns_putAt [u] (k*6+j) h1).1
  rw[setAll_one] at h3
  exact⟨cells.set (k*6+j) u,by rw[List.length_set];exact h3,many_setE hj hx (Rep.many_flat seR_flat h2) hk he⟩
 ·exact h.ws.kept hg (fun k hk e=>by cases hk;cases e;exact h.ab rfl) (fun _ _ h=>h)
theorem RdO.same {w0 W:World} {g a b:Nat} {V:Option Addr} {vc:Nat} {s s':Au} {op:MOp} {rp:MRp} (h:RdO w0 W g a b V vc s op rp) (he:s=s'):RdO w0 W g a b V vc s' op rp:=he▸h
set_option maxRecDepth 100000 in
set_option maxHeartbeats 4000000 in
theorem learn4_any {w0 W:World} {g a b:Nat} {V:Option Addr} {vc:Nat} {s:Au} {op:MOp} {rp:MRp} (R:RdO w0 W g a b V vc s op rp) (hk:op.kind=4) {k:Nat} (hs:seatA op=(k:Int)) (hlt:k<s.seats.length):
 Calls Tryz.prog 83 #[.pointer (some ⟨g,0,none⟩)] W (LearnPost w0 W g a b V vc (learnA s op rp) op rp):=by
 have hL:learnA s op rp={s with seats:=s.seats.set k (freeS s.seats[k])}:=by simp[learnA,isB,hk,hs,seatMod,List.getElem?_eq_getElem hlt]
 rw[hL]
 clear hL
 have C2:=Lib.hid (R.rd.isC [2,3] (by simp[Bd]) (by simp))
 rw[show isB [2,3] op.kind=false by rw[hk];rfl] at C2
 have C10:=Lib.hid (R.rd.isC [10] (by simp[Bd]) (by simp))
 rw[show isB [10] op.kind=false by rw[hk];rfl] at C10
 have C11:=Lib.hid (R.rd.isC [11] (by simp[Bd]) (by simp))
 rw[show isB [11] op.kind=false by rw[hk];rfl] at C11
 have C12:=Lib.hid (R.rd.isC [12] (by simp[Bd]) (by simp))
 rw[show isB [12] op.kind=false by rw[hk];rfl] at C12
 have C9:=Lib.hid (R.rd.isC [9] (by simp[Bd]) (by simp))
 rw[show isB [9] op.kind=false by rw[hk];rfl] at C9
 have S:=Lib.hid (fun w (hw:Below W.heap.size W w)=>(R.rd.seatG w hw))
 rw[hs] at S
 obtain⟨_,_,_,_,_,_,_,_,_,_,hx0,hx1,hx2,hx3⟩:=R.rd.ss.atE hlt
 have RH:=Lib.hid R
 clear R hs
 go_enter Tryz.func83,Tryz.ntmps83
 go_wp2_with fail
 refine(C2.out _ _ (Below.refl _ _) rfl).mono ?_
 rintro e w1 ⟨rfl,hb⟩
 have HB:=Lib.hid hb
 clear hb
 go_wp2_with fail
 refine(C10.out _ _ HB.out rfl).mono ?_
 rintro e w2 ⟨rfl,hb⟩
 replace HB:=Lib.hid (HB.out.trans (hb.mono HB.out.size))
 clear hb
 go_wp2_with fail
 refine(C11.out _ _ HB.out rfl).mono ?_
 rintro e w3 ⟨rfl,hb⟩
 replace HB:=Lib.hid (HB.out.trans (hb.mono HB.out.size))
 clear hb
 go_wp2_with fail
 refine(C12.out _ _ HB.out rfl).mono ?_
 rintro e w4 ⟨rfl,hb⟩
 replace HB:=Lib.hid (HB.out.trans (hb.mono HB.out.size))
 clear hb
 go_wp2_with fail
 refine(S.out _ HB.out).mono ?_
 rintro e w5 ⟨rfl,hb⟩
 replace HB:=Lib.hid (HB.out.trans (hb.mono HB.out.size))
 clear hb
 go_wp2_with fail
 refine(C9.out _ _ HB.out rfl).mono ?_
 rintro e w6 ⟨rfl,hb⟩
 replace HB:=Lib.hid (HB.out.trans (hb.mono HB.out.size))
 clear hb
 have R1:=RH.out.up HB.out
 have c5:=gro_cell (R1.cs.c 5 _ rfl)
 simp only[ownF] at c5
 have z1:=R1.aB.2
 have z2:=R1.cs.lt
 clear R1
 go_wp2_with fail
 refine wp_region_gro (by kernel_rfl) (by kernel_rfl) ?_
 repeat(go_big_quiet_step (first|(go_at_call 119;exact Calls.gro_of (S.out _ (HB.out.trans ((gro_below _ _).mono HB.out.size))))|fail))
 refine wpQuiet_nil ?_
 refine gro_end fun W7 hb7=> ?_
 replace HB:=Lib.hid (HB.out.trans (hb7.mono HB.out.size))
 clear hb7 c5
 have R1:=RH.out.up HB.out
 have z1:=R1.aB.2
 have z2:=R1.cs.lt
 obtain⟨cs,⟨rfl,_⟩,hcs,fd⟩:=R1.ss.cell_ hlt
 have d0:=hcs 0 _ rfl
 have d1:=hcs 1 _ rfl
 have d2:=hcs 2 _ rfl
 have d3:=hcs 3 _ rfl
 have d4:=hcs 4 _ rfl
 have d5:=hcs 5 _ rfl
 simp only[seR,Nat.add_zero] at d0 d1 d2 d3 d4 d5
 have f0:=fd (k*6)
 have f1:=fd (k*6+1)
 have f2:=fd (k*6+2)
 have f3:=fd (k*6+3)
 have f4:=fd (k*6+4)
 have f5:=fd (k*6+5)
 clear R1 hcs fd
 go_wp2_with fail
 refine wp_region_still_tail 11 (by kernel_rfl) (by kernel_rfl) ?_
 simp only[List.take_succ_cons,List.take_zero,List.drop_succ_cons,List.drop_zero,World.drew_eq]
 repeat still_step
 refine wpStill_nil ?_
 go_wp2_with fail
 obtain⟨R4,ho4⟩:=(RH.out.up HB.out).putSeat hlt (x:=freeS s.seats[k]) ⟨by simp[freeS,U32],by simp[freeS,Bd],hx2,hx3⟩
 have HO:=Lib.hid (((Only3.of g a b HB.out).trans ho4).drew)
 have RH4:=Lib.hid (R4.up (bdd (Below.refl _ _)))
 simp only[putAt,seCells,freeS,Nat.add_assoc,Nat.reduceAdd] at HO RH4
 clear R4 ho4 d0 d1 d2 d3 d4 d5 f0 f1 f2 f3 f4 f5
 have C5:=Lib.hid (RH4.out.rd.isC [5] (by simp[Bd]) (by simp))
 rw[show isB [5] op.kind=false by rw[hk];rfl] at C5
 have C6:=Lib.hid (RH4.out.rd.isC [6] (by simp[Bd]) (by simp))
 rw[show isB [6] op.kind=false by rw[hk];rfl] at C6
 have C8:=Lib.hid (RH4.out.rd.isC [8] (by simp[Bd]) (by simp))
 rw[show isB [8] op.kind=false by rw[hk];rfl] at C8
 refine(C5.out _ W7.heap.size (Below.refl _ _) (by simp)).mono ?_
 rintro e w8 ⟨rfl,hb⟩
 have HB4:=Lib.hid hb
 clear hb
 go_wp2_with fail
 refine(C6.out _ _ HB4.out rfl).mono ?_
 rintro e w9 ⟨rfl,hb⟩
 replace HB4:=Lib.hid (HB4.out.trans (hb.mono HB4.out.size))
 clear hb
 go_wp2_with fail
 refine(C8.out _ _ HB4.out rfl).mono ?_
 rintro e w10 ⟨rfl,hb⟩
 replace HB4:=Lib.hid (HB4.out.trans (hb.mono HB4.out.size))
 clear hb
 go_wp2_with fail
 refine bodyPost_end (results_none rfl _ _ _) rfl ?_
 exact⟨rfl,RH4.out.up HB4.out,HO.out.trans (Only3.of _ _ _ HB4.out)⟩
set_option maxRecDepth 100000 in
set_option maxHeartbeats 4000000 in
theorem learn7_any {w0 W:World} {g a b:Nat} {V:Option Addr} {vc:Nat} {s:Au} {op:MOp} {rp:MRp} (R:RdO w0 W g a b V vc s op rp) (hk:op.kind=7) {k:Nat} (hs:seatA op=(k:Int)) (hlt:k<s.seats.length):
 Calls Tryz.prog 83 #[.pointer (some ⟨g,0,none⟩)] W (LearnPost w0 W g a b V vc (learnA s op rp) op rp):=by
 have hL:learnA s op rp={s with seats:=s.seats.set k (freeS s.seats[k])}:=by simp[learnA,isB,hk,hs,seatMod,List.getElem?_eq_getElem hlt]
 rw[hL]
 clear hL
 have C2:=Lib.hid (R.rd.isC [2,3] (by simp[Bd]) (by simp))
 rw[show isB [2,3] op.kind=false by rw[hk];rfl] at C2
 have C10:=Lib.hid (R.rd.isC [10] (by simp[Bd]) (by simp))
 rw[show isB [10] op.kind=false by rw[hk];rfl] at C10
 have C11:=Lib.hid (R.rd.isC [11] (by simp[Bd]) (by simp))
 rw[show isB [11] op.kind=false by rw[hk];rfl] at C11
 have C12:=Lib.hid (R.rd.isC [12] (by simp[Bd]) (by simp))
 rw[show isB [12] op.kind=false by rw[hk];rfl] at C12
 have C9:=Lib.hid (R.rd.isC [9] (by simp[Bd]) (by simp))
 rw[show isB [9] op.kind=false by rw[hk];rfl] at C9
 have S:=Lib.hid (fun w (hw:Below W.heap.size W w)=>(R.rd.seatG w hw))
 rw[hs] at S
 obtain⟨_,_,_,_,_,_,_,_,_,_,hx0,hx1,hx2,hx3⟩:=R.rd.ss.atE hlt
 have RH:=Lib.hid R
 clear R hs
 go_enter Tryz.func83,Tryz.ntmps83
 go_wp2_with fail
 refine(C2.out _ _ (Below.refl _ _) rfl).mono ?_
 rintro e w1 ⟨rfl,hb⟩
 have HB:=Lib.hid hb
 clear hb
 go_wp2_with fail
 refine(C10.out _ _ HB.out rfl).mono ?_
 rintro e w2 ⟨rfl,hb⟩
 replace HB:=Lib.hid (HB.out.trans (hb.mono HB.out.size))
 clear hb
 go_wp2_with fail
 refine(C11.out _ _ HB.out rfl).mono ?_
 rintro e w3 ⟨rfl,hb⟩
 replace HB:=Lib.hid (HB.out.trans (hb.mono HB.out.size))
 clear hb
 go_wp2_with fail
 refine(C12.out _ _ HB.out rfl).mono ?_
 rintro e w4 ⟨rfl,hb⟩
 replace HB:=Lib.hid (HB.out.trans (hb.mono HB.out.size))
 clear hb
 go_wp2_with fail
 refine(S.out _ HB.out).mono ?_
 rintro e w5 ⟨rfl,hb⟩
 replace HB:=Lib.hid (HB.out.trans (hb.mono HB.out.size))
 clear hb
 go_wp2_with fail
 refine(C9.out _ _ HB.out rfl).mono ?_
 rintro e w6 ⟨rfl,hb⟩
 replace HB:=Lib.hid (HB.out.trans (hb.mono HB.out.size))
 clear hb
 have R1:=RH.out.up HB.out
 have c5:=gro_cell (R1.cs.c 5 _ rfl)
 simp only[ownF] at c5
 have z1:=R1.aB.2
 have z2:=R1.cs.lt
 clear R1
 go_wp2_with fail
 refine wp_region_gro (by kernel_rfl) (by kernel_rfl) ?_
 repeat(go_big_quiet_step (first|(go_at_call 119;exact Calls.gro_of (S.out _ (HB.out.trans ((gro_below _ _).mono HB.out.size))))|fail))
 refine wpQuiet_nil ?_
 refine gro_end fun W7 hb7=> ?_
 replace HB:=Lib.hid (HB.out.trans (hb7.mono HB.out.size))
 clear hb7 c5
 have R1:=RH.out.up HB.out
 have z1:=R1.aB.2
 have z2:=R1.cs.lt
 obtain⟨cs,⟨rfl,_⟩,hcs,fd⟩:=R1.ss.cell_ hlt
 have d0:=hcs 0 _ rfl
 have d1:=hcs 1 _ rfl
 have d2:=hcs 2 _ rfl
 have d3:=hcs 3 _ rfl
 have d4:=hcs 4 _ rfl
 have d5:=hcs 5 _ rfl
 simp only[seR,Nat.add_zero] at d0 d1 d2 d3 d4 d5
 have f0:=fd (k*6)
 have f1:=fd (k*6+1)
 have f2:=fd (k*6+2)
 have f3:=fd (k*6+3)
 have f4:=fd (k*6+4)
 have f5:=fd (k*6+5)
 clear R1 hcs fd
 go_wp2_with fail
 refine wp_region_still_tail 11 (by kernel_rfl) (by kernel_rfl) ?_
 simp only[List.take_succ_cons,List.take_zero,List.drop_succ_cons,List.drop_zero,World.drew_eq]
 repeat still_step
 refine wpStill_nil ?_
 go_wp2_with fail
 obtain⟨R4,ho4⟩:=(RH.out.up HB.out).putSeat hlt (x:=freeS s.seats[k]) ⟨by simp[freeS,U32],by simp[freeS,Bd],hx2,hx3⟩
 have HO:=Lib.hid (((Only3.of g a b HB.out).trans ho4).drew)
 have RH4:=Lib.hid (R4.up (bdd (Below.refl _ _)))
 simp only[putAt,seCells,freeS,Nat.add_assoc,Nat.reduceAdd] at HO RH4
 clear R4 ho4 d0 d1 d2 d3 d4 d5 f0 f1 f2 f3 f4 f5
 have C5:=Lib.hid (RH4.out.rd.isC [5] (by simp[Bd]) (by simp))
 rw[show isB [5] op.kind=false by rw[hk];rfl] at C5
 have C6:=Lib.hid (RH4.out.rd.isC [6] (by simp[Bd]) (by simp))
 rw[show isB [6] op.kind=false by rw[hk];rfl] at C6
 have C8:=Lib.hid (RH4.out.rd.isC [8] (by simp[Bd]) (by simp))
 rw[show isB [8] op.kind=false by rw[hk];rfl] at C8
 refine(C5.out _ W7.heap.size (Below.refl _ _) (by simp)).mono ?_
 rintro e w8 ⟨rfl,hb⟩
 have HB4:=Lib.hid hb
 clear hb
 go_wp2_with fail
 refine(C6.out _ _ HB4.out rfl).mono ?_
 rintro e w9 ⟨rfl,hb⟩
 replace HB4:=Lib.hid (HB4.out.trans (hb.mono HB4.out.size))
 clear hb
 go_wp2_with fail
 refine(C8.out _ _ HB4.out rfl).mono ?_
 rintro e w10 ⟨rfl,hb⟩
 replace HB4:=Lib.hid (HB4.out.trans (hb.mono HB4.out.size))
 clear hb
 go_wp2_with fail
 refine bodyPost_end (results_none rfl _ _ _) rfl ?_
 exact⟨rfl,RH4.out.up HB4.out,HO.out.trans (Only3.of _ _ _ HB4.out)⟩
end Go.Proofs.YtlckmjiioohcmaaGreatDoor

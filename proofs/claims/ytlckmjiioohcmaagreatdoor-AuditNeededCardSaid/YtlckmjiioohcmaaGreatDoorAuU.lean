/-
  Walk of the audit reader's method learn: a tick. Conditions: as each theorem says.
-/
import Derived.Test.YtlckmjiioohcmaaGreatDoorAuT
namespace Go.Proofs.YtlckmjiioohcmaaGreatDoor
open Go.RowKit
theorem modSeg_all {α:Type} (f:α→α) (l:List α):modSeg f l 0 l.length=l.map f:=by simp[modSeg]
theorem Cells.set1 {W:World} {g j:Nat} {cs:List Value} {u:Value} (h:Cells W g cs):Cells (W.setCell ⟨g,j,none⟩ u) g (cs.set j u):=by
 refine⟨fun i v hv=> ?_,fun i=>by simp[h.f i],by simpa using h.lt⟩
 by_cases e:i=j
 ·subst e
  rcases Nat.lt_or_ge i cs.length with hl|hl
  ·rw[List.getElem?_set_self hl] at hv
   injection hv with hv
   subst hv
   exact World.cell?_setCell_same W _ u (h.c i _ (List.getElem?_eq_getElem hl))
  ·rw[List.getElem?_eq_none (by simpa using hl)] at hv;cases hv
 ·rw[List.getElem?_set_ne (fun h=>e h.symm)] at hv
  rw[World.cell?_setCell_other W _ _ u (fun h=>e (by injection h with _ h2;exact h2.symm))]
  exact h.c i v hv
set_option maxRecDepth 100000 in
set_option maxHeartbeats 4000000 in
theorem learn12_any {w0 W:World} {g a b:Nat} {V:Option Addr} {vc:Nat} {s:Au} {op:MOp} {rp:MRp} (R:RdO w0 W g a b V vc s op rp) (hk:op.kind=12) (hlen:s.seats.length≤4096):
 Calls Tryz.prog 83 #[.pointer (some ⟨g,0,none⟩)] W (LearnPost w0 W g a b V vc (learnA s op rp) op rp):=by
 have hL:learnA s op rp={s with now:=op.now,seats:=s.seats.map (tickS op.now)}:=by simp[learnA,isB,hk]
 rw[hL]
 clear hL
 have C2:=Lib.hid (R.rd.isC [2,3] (by simp[Bd]) (by simp))
 rw[show isB [2,3] op.kind=false by rw[hk];rfl] at C2
 have C10:=Lib.hid (R.rd.isC [10] (by simp[Bd]) (by simp))
 rw[show isB [10] op.kind=false by rw[hk];rfl] at C10
 have C11:=Lib.hid (R.rd.isC [11] (by simp[Bd]) (by simp))
 rw[show isB [11] op.kind=false by rw[hk];rfl] at C11
 have C12:=Lib.hid (R.rd.isC [12] (by simp[Bd]) (by simp))
 rw[show isB [12] op.kind=true by rw[hk];rfl] at C12
 have S:=Lib.hid (fun w W0 s' (R:RdO w W0 g a b V vc s' op rp)=>R.rd.seatG)
 rw[show seatA op= -1 by simp[seatA,hk]] at S
 have RH:=Lib.hid R
 clear R
 go_enter Tryz.func83,Tryz.ntmps83
 go_wp2_with fail
 refine(C2.out _ _ (Below.refl _ _) rfl).mono ?_
 rintro e w1 ⟨rfl,hb⟩
 have HB:=Lib.hid hb
 clear hb
 go_wp2_with fail
 refine(C10.out _ _ HB.out rfl).mono ?_
 rintro e w2 ⟨rfl,hb⟩
 replace HB:=Lib.hid (HB.out.trans (hb.mono HB.out.size))
 clear hb
 go_wp2_with fail
 refine(C11.out _ _ HB.out rfl).mono ?_
 rintro e w3 ⟨rfl,hb⟩
 replace HB:=Lib.hid (HB.out.trans (hb.mono HB.out.size))
 clear hb
 go_wp2_with fail
 refine(C12.out _ _ HB.out rfl).mono ?_
 rintro e w4 ⟨rfl,hb⟩
 replace HB:=Lib.hid (HB.out.trans (hb.mono HB.out.size))
 clear hb
 have R1:=RH.out.up HB.out
 have c18:=R1.cs.c 18 _ rfl
 have c4:=R1.cs.c 4 _ rfl
 have f4:=R1.cs.f 4
 have z1:=R1.aB.2
 have z2:=R1.cs.lt
 obtain⟨R2,ho2⟩:=R1.putOwn (n:=op.now) (op':=op) (rp':=rp) R1.bo.2.2.2.2.2.2.2.2 R1.bo R1.br (grownBy_set w4 g 4 (.int .i64 op.now)) R1.cs.set1
 have c5:=R2.cs.c 5 _ rfl
 simp only[ownF] at c5
 have R2':=Lib.hid R2
 have HO2:=Lib.hid ((Only3.of g a b HB.out).trans ho2)
 clear R1 R2 ho2 C2 C10 C11 C12
 go_wp2_with fail
 go_loopw [121] (fun i wr=> ∃j:Nat,j≤s.seats.length∧i=.int .i64 j∧Hid (RdO w0 wr g a b V vc {s with now:=op.now,seats:=modSeg (tickS op.now) s.seats 0 j} op rp)∧Hid (Only3 g a b W wr)) (fun i _=>s.seats.length-(intOf i).toNat)
 case atStart=>exact⟨0,by omega,rfl,Lib.hid (R2'.out.same (by rw[modSeg_zero])),HO2⟩
 case round=>
  obtain⟨j,hj,rfl,RJ,HO⟩:=hrel
  by_cases hlt:j<s.seats.length
  ·have R5:=RJ.out
   have hl:j<(modSeg (tickS op.now) s.seats 0 j).length:=by rw[modSeg_len _ _ _ _ (by omega)];omega
   have hget:(modSeg (tickS op.now) s.seats 0 j)[j]=s.seats[j]:=by
    have:=modSeg_at (tickS op.now) s.seats 0 j (by omega)
    simp only[Nat.zero_add] at this
    rw[List.getElem?_eq_getElem hl] at this
    exact Option.some.inj this
   obtain⟨cs,hcs0,hcs,_⟩:=R5.ss.cell_ hl
   change seR.is _ cs (modSeg (tickS op.now) s.seats 0 j)[j] at hcs0
   rw[hget] at hcs0
   obtain⟨rfl,hx⟩:=hcs0
   have HG:=Lib.hid (modSeg_next (tickS op.now) s.seats 0 j (by omega))
   simp only[Nat.zero_add] at HG
   have HN:=Lib.hid hget
   clear hget
   obtain⟨x,hX⟩:∃x,s.seats[j]=x:=⟨_,rfl⟩
   rw[hX] at hcs hx HG HN
   obtain⟨so,he,ow,ti,se,ep⟩:=x
   simp only[seR] at hcs
   have d0:=hcs 0 _ rfl
   have d1:=hcs 1 _ rfl
   have d2:=hcs 2 _ rfl
   have d3:=hcs 3 _ rfl
   have d4:=hcs 4 _ rfl
   have d5:=hcs 5 _ rfl
   simp only[Nat.add_zero] at d0 d1 d2 d3 d4 d5
   have z3:=R5.aB.2
   have z4:=R5.cs.lt
   have HX:=Lib.hid hx
   clear R5 hcs hx hX
   go_wp2_with fail
   refine at_world (fun w=>Below wr.heap.size wr w∧Cells w wr.heap.size [.bool so,.bool he,.int .u32 ow,.int .i64 ti,.int .u64 se,.int .u64 ep]) ⟨ba _ _,Cells.new _ _ _⟩ fun W1 ⟨hb1,k1⟩=> ?_
   have HB1:=Lib.hid hb1
   have HK1:=Lib.hid k1
   have e1:=gro_cell (k1.c 1 _ rfl)
   have e3:=gro_cell (k1.c 3 _ rfl)
   have e4:=gro_cell ((RJ.out.up hb1).cs.c 4 _ rfl)
   have y1:=(RJ.out.up hb1).cs.lt
   have y2:=k1.lt
   clear d0 d1 d2 d3 d4 d5 hb1 k1 z3 z4
   cases he with
   |false=>
    refine wp_region_gro (by kernel_rfl) (by kernel_rfl) ?_
    repeat(go_big_quiet_step (fail))
    refine wpQuiet_nil ?_
    refine gro_end fun W2 hb2=> ?_
    have HB2:=Lib.hid (HB1.out.trans (hb2.mono HB1.out.size))
    clear hb2 e1 e3 e4 y1 y2
    go_wp2_with fail
    go_roundw
    case rel=>exact⟨j+1,by omega,by go_num,Lib.hid ((RJ.out.up HB2.out).same (by rw[HG.out];rw[show tickS op.now ⟨so,false,ow,ti,se,ep⟩=⟨so,false,ow,ti,se,ep⟩ from rfl,←HN.out,List.set_getElem_self])),Lib.hid (HO.out.trans (Only3.of _ _ _ HB2.out))⟩
    case measure=>simp[intOf];omega
   |true=>
    by_cases h0:ti≤op.now
    ·have t0:decide (ti≤op.now)=true:=decide_eq_true h0
     refine wp_region_gro (by kernel_rfl) (by kernel_rfl) ?_
     repeat(go_big_quiet_step (fail))
     refine wpQuiet_nil ?_
     refine gro_end fun W2 hb2=> ?_
     have HB2:=Lib.hid (HB1.out.trans (hb2.mono HB1.out.size))
     have R6:=RJ.out.up HB2.out
     have c5:=R6.cs.c 5 _ rfl
     simp only[ownF] at c5
     rw[modSeg_len _ _ _ _ (by omega)] at c5
     obtain⟨cs,hcs0,hcs,fd⟩:=R6.ss.cell_ hl
     change seR.is _ cs (modSeg (tickS op.now) s.seats 0 j)[j] at hcs0
     rw[HN.out] at hcs0
     obtain⟨rfl,_⟩:=hcs0
     simp only[seR] at hcs
     have d0:=hcs 0 _ rfl
     have d1:=hcs 1 _ rfl
     have d2:=hcs 2 _ rfl
     have d3:=hcs 3 _ rfl
     have d4:=hcs 4 _ rfl
     have d5:=hcs 5 _ rfl
     simp only[Nat.add_zero] at d0 d1 d2 d3 d4 d5
     have f0:=fd (j*6)
     have f1:=fd (j*6+1)
     have f2:=fd (j*6+2)
     have f3:=fd (j*6+3)
     have f4:=fd (j*6+4)
     have f5:=fd (j*6+5)
     have z5:=R6.aB.2
     have z6:=R6.cs.lt
     have k2:=HK1.out.later hb2
     have g4:=k2.c 4 _ rfl
     have g5:=k2.c 5 _ rfl
     have z7:=k2.lt
     clear R6 hcs fd k2 hb2 e1 e3 e4 y1 y2
     go_wp2_with fail
     refine wp_region_still_tail 12 (by kernel_rfl) (by kernel_rfl) ?_
     simp only[List.take_succ_cons,List.take_zero,List.drop_succ_cons,List.drop_zero,World.drew_eq]
     repeat still_step
     refine wpStill_nil ?_
     go_wp2_with fail
     obtain⟨R4,ho4⟩:=(RJ.out.up HB2.out).putSeat hl (x:=freeS ⟨so,true,ow,ti,se,ep⟩) ⟨by simp[freeS,U32],by simp[freeS,Bd],HX.out.2.2.1,HX.out.2.2.2⟩
     simp only[putAt,seCells,freeS,Nat.add_assoc,Nat.reduceAdd] at R4 ho4
     clear d0 d1 d2 d3 d4 d5 f0 f1 f2 f3 f4 f5 c5 g4 g5
     go_roundw
     case rel=>exact⟨j+1,by omega,by go_num,Lib.hid ((R4.up (bdd (Below.refl _ _))).same (by rw[HG.out];simp[tickS,h0,freeS])),Lib.hid ((HO.out.trans (Only3.of _ _ _ HB2.out)).trans ho4).drew⟩
     case measure=>simp[intOf];omega
    ·have t0:decide (ti≤op.now)=false:=decide_eq_false h0
     refine wp_region_gro (by kernel_rfl) (by kernel_rfl) ?_
     repeat(go_big_quiet_step (fail))
     refine wpQuiet_nil ?_
     refine gro_end fun W2 hb2=> ?_
     have HB2:=Lib.hid (HB1.out.trans (hb2.mono HB1.out.size))
     clear hb2 e1 e3 e4 y1 y2
     go_wp2_with fail
     go_roundw
     case rel=>exact⟨j+1,by omega,by go_num,Lib.hid ((RJ.out.up HB2.out).same (by rw[HG.out];rw[show tickS op.now ⟨so,true,ow,ti,se,ep⟩=⟨so,true,ow,ti,se,ep⟩ by simp[tickS,h0],←HN.out,List.set_getElem_self])),Lib.hid (HO.out.trans (Only3.of _ _ _ HB2.out))⟩
     case measure=>simp[intOf];omega
  ·obtain rfl:j=s.seats.length:=by omega
   have RE:=RJ.out
   rw[modSeg_all] at RE
   have RE':=Lib.hid RE
   clear RE
   go_wp2_with fail
   refine(S.out _ _ _ RE'.out _ (Below.refl _ _)).mono ?_
   rintro e w6 ⟨rfl,hb⟩
   have HO6:=Lib.hid (HO.out.trans (Only3.of g a b hb))
   have RE6:=Lib.hid (RE'.out.up hb)
   clear hb
   go_wp2_with fail
   refine bodyPost_ret (results_none rfl _ _ _) rfl ?_
   exact⟨rfl,RE6.out,HO6.out⟩
end Go.Proofs.YtlckmjiioohcmaaGreatDoor

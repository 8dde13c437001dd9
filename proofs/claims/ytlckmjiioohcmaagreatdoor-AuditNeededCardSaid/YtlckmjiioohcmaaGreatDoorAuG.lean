/-
  Walks of the audit reader's methods wrong and list. Conditions: as each theorem says.
-/
import Derived.Test.YtlckmjiioohcmaaGreatDoorAuF
namespace Go.Proofs.YtlckmjiioohcmaaGreatDoor
open Go.RowKit
theorem Rd.seatC {W:World} {g:Nat} {F:Frm} {s:Au} {op:MOp} {rp:MRp} (h:Rd W g F s op rp) (w:World) (hw:Below W.heap.size W w):
 Calls Tryz.prog 119 #[.pointer (some ⟨g,0,none⟩)] w fun e w'=>e=.returned (.int .i64 (seatA op))∧w=w':=
 seat_any g op w ((h.up hw).cs.c 7 _ rfl) ((h.up hw).cs.c 10 _ rfl) ((h.up hw).cs.c 14 _ rfl) h.bo.2.2.2.2.2.2.2.1.1
def wrongA (seats:List Se) (op:MOp) (rp:MRp):Bool:=isB [5,6] op.kind&&match seats[(seatA op).toNat]? with
 |some x=>x.serial==18446744073709551615|| !(rp.tk==⟨seatA op,if isB [6] op.kind then op.to else op.owner,x.serial+1,x.epoch⟩)
 |none=>false
set_option maxHeartbeats 1000000 in
theorem wrongN_any {W:World} {g:Nat} {F:Frm} {s:Au} {op:MOp} {rp:MRp} (R:Rd W g F s op rp) (hq:isB [5,6] op.kind=false):
 Calls Tryz.prog 162 #[.pointer (some ⟨g,0,none⟩)] W fun e w'=>e=.returned (.bool (wrongA s.seats op rp))∧Below W.heap.size W w':=by
 have hT:=Lib.hid (show wrongA s.seats op rp=false by simp[wrongA,hq])
 generalize wrongA s.seats op rp=M at hT⊢
 have C1:=Lib.hid (R.isC [5,6] (by simp[Bd]) (by simp))
 rw[hq] at C1
 clear R hq
 go_enter Tryz.func162,Tryz.ntmps162
 go_wp2_with fail
 refine(C1.out _ _ (Below.refl _ _) rfl).mono ?_
 rintro e w1 ⟨rfl,hb⟩
 go_wp2_with fail
 go_ret
 exact⟨ret_bool hT.out.symm,hb⟩
set_option maxHeartbeats 4000000 in
theorem wrong6_any {W:World} {g:Nat} {F:Frm} {s:Au} {op:MOp} {rp:MRp} (R:Rd W g F s op rp) (hq:isB [5,6] op.kind=true) (hq6:isB [6] op.kind=true) {k:Nat} (hk:seatA op=(k:Int)) (hlt:k<s.seats.length) (hl:s.seats.length≤4294967295):
 Calls Tryz.prog 162 #[.pointer (some ⟨g,0,none⟩)] W fun e w'=>e=.returned (.bool (wrongA s.seats op rp))∧Below W.heap.size W w':=by
 obtain⟨b,off,hA,hbl,d0,d1,d2,d3,d4,d5,hx0,_,hx1,hx2⟩:=R.ss.atE hlt
 have hT:=Lib.hid (show wrongA s.seats op rp=(s.seats[k].serial==18446744073709551615|| !(rp.tk==⟨k,op.to,s.seats[k].serial+1,s.seats[k].epoch⟩)) by simp[wrongA,hq,hq6,hk,List.getElem?_eq_getElem hlt])
 generalize wrongA s.seats op rp=M at hT⊢
 have D:=Lib.hid (fun w (hb:Below W.heap.size W w)=>And.intro (cell_later hb d0) (And.intro (cell_later hb d1) (And.intro (cell_later hb d2) (And.intro (cell_later hb d3) (And.intro (cell_later hb d4) (And.intro (cell_later hb d5) (Nat.lt_of_lt_of_le hbl hb.size)))))))
 clear d0 d1 d2 d3 d4 d5
 generalize s.seats[k]=x at D hT hx0 hx1 hx2
 have C1:=Lib.hid (R.isC [5,6] (by simp[Bd]) (by simp))
 have C2:=Lib.hid (R.isC [6] (by simp[Bd]) (by simp))
 have C3:=Lib.hid R.seatC
 rw[hq] at C1
 rw[hq6] at C2
 rw[hk] at C3
 have RH:=Lib.hid R
 clear R hq hq6
 go_enter Tryz.func162,Tryz.ntmps162
 go_wp2_with fail
 refine(C1.out _ _ (Below.refl _ _) rfl).mono ?_
 rintro e w1 ⟨rfl,hb⟩
 have HB:=Lib.hid hb
 clear hb
 go_wp2_with fail
 refine(C3.out _ HB.out).mono ?_
 rintro e w1 ⟨rfl,rfl⟩
 have R1:=RH.out.up HB.out
 have c8:=R1.cs.c 8 _ rfl
 have y1:=R1.cs.lt
 clear R1
 go_wp2_with fail
 refine(C2.out _ _ HB.out rfl).mono ?_
 rintro e w2 ⟨rfl,hb⟩
 replace HB:=Lib.hid (HB.out.trans (hb.mono HB.out.size))
 clear hb c8 y1
 have R1:=RH.out.up HB.out
 have c13:=R1.cs.c 13 _ rfl
 have c5:=R1.cs.c 5 _ rfl
 have c23:=R1.cs.c 23 _ rfl
 have c24:=R1.cs.c 24 _ rfl
 have c25:=R1.cs.c 25 _ rfl
 have c26:=R1.cs.c 26 _ rfl
 have y1:=R1.cs.lt
 rw[hA] at c5
 obtain⟨d0,d1,d2,d3,d4,d5,y2⟩:=D.out _ HB.out
 obtain⟨so,he,ow,ti,se,ep⟩:=x
 dsimp only at d0 d1 d2 d3 d4 d5 hT hx1
 generalize rp.tk=tk at c23 c24 c25 c26 hT
 obtain⟨t1,t2,t3,t4⟩:=tk
 dsimp only at c23 c24 c25 c26 hT
 have hw:IntKind.u32.wrap (k:Int)=(k:Int):=IntWalk.u32_in _ (by omega)
 clear R1 D RH C1 C2 C3 hx0 hx2
 by_cases hse:se=18446744073709551615
 ·subst hse
  clear hx1
  have tse:((18446744073709551615:Int)==18446744073709551615)=true:=rfl
  obtain rfl:M=true:=by rw[hT.out];simp_all
  go_wp2_with fail
  go_quiet (fail)
  go_wp2_with fail
  go_ret
  exact⟨rfl,bdN (bal HB.out) _⟩
 ·have tse:(se==18446744073709551615)=false:=by simpa using hse
  have hw2:IntKind.u64.wrap (se+1)=se+1:=IntWalk.u64_in _ (by unfold U64 at hx1;omega)
  clear hx1
  by_cases q1:t1=(k:Int)
  ·subst q1
   by_cases q2:t2=op.to
   ·subst q2
    by_cases q3:t3=se+1
    ·subst q3
     by_cases q4:t4=ep
     ·subst q4
      obtain rfl:M=false:=by rw[hT.out];simp_all
      go_wp2_with fail
      go_quiet (fail)
      go_wp2_with fail
      go_ret
      exact⟨rfl,bdN (bal HB.out) _⟩
     ·have t:(t4==ep)=false:=by simpa using q4
      obtain rfl:M=true:=by rw[hT.out];simp_all
      clear q4
      go_wp2_with fail
      go_quiet (fail)
      go_wp2_with fail
      go_ret
      exact⟨rfl,bdN (bal HB.out) _⟩
    ·have t:(t3==se+1)=false:=by simpa using q3
     obtain rfl:M=true:=by rw[hT.out];simp_all
     clear q3
     go_wp2_with fail
     go_quiet (fail)
     go_wp2_with fail
     go_ret
     exact⟨rfl,bdN (bal HB.out) _⟩
   ·have t:(t2==op.to)=false:=by simpa using q2
    obtain rfl:M=true:=by rw[hT.out];simp_all
    clear q2
    go_wp2_with fail
    go_quiet (fail)
    go_wp2_with fail
    go_ret
    exact⟨rfl,bdN (bal HB.out) _⟩
  ·have t:(t1==(k:Int))=false:=by simpa using q1
   obtain rfl:M=true:=by rw[hT.out];simp_all
   clear q1
   go_wp2_with fail
   go_quiet (fail)
   go_wp2_with fail
   go_ret
   exact⟨rfl,bdN (bal HB.out) _⟩
set_option maxHeartbeats 4000000 in
theorem wrong5_any {W:World} {g:Nat} {F:Frm} {s:Au} {op:MOp} {rp:MRp} (R:Rd W g F s op rp) (hq:isB [5,6] op.kind=true) (hq6:isB [6] op.kind=false) {k:Nat} (hk:seatA op=(k:Int)) (hlt:k<s.seats.length) (hl:s.seats.length≤4294967295):
 Calls Tryz.prog 162 #[.pointer (some ⟨g,0,none⟩)] W fun e w'=>e=.returned (.bool (wrongA s.seats op rp))∧Below W.heap.size W w':=by
 obtain⟨b,off,hA,hbl,d0,d1,d2,d3,d4,d5,hx0,_,hx1,hx2⟩:=R.ss.atE hlt
 have hT:=Lib.hid (show wrongA s.seats op rp=(s.seats[k].serial==18446744073709551615|| !(rp.tk==⟨k,op.owner,s.seats[k].serial+1,s.seats[k].epoch⟩)) by simp[wrongA,hq,hq6,hk,List.getElem?_eq_getElem hlt])
 generalize wrongA s.seats op rp=M at hT⊢
 have D:=Lib.hid (fun w (hb:Below W.heap.size W w)=>And.intro (cell_later hb d0) (And.intro (cell_later hb d1) (And.intro (cell_later hb d2) (And.intro (cell_later hb d3) (And.intro (cell_later hb d4) (And.intro (cell_later hb d5) (Nat.lt_of_lt_of_le hbl hb.size)))))))
 clear d0 d1 d2 d3 d4 d5
 generalize s.seats[k]=x at D hT hx0 hx1 hx2
 have C1:=Lib.hid (R.isC [5,6] (by simp[Bd]) (by simp))
 have C2:=Lib.hid (R.isC [6] (by simp[Bd]) (by simp))
 have C3:=Lib.hid R.seatC
 rw[hq] at C1
 rw[hq6] at C2
 rw[hk] at C3
 have RH:=Lib.hid R
 clear R hq hq6
 go_enter Tryz.func162,Tryz.ntmps162
 go_wp2_with fail
 refine(C1.out _ _ (Below.refl _ _) rfl).mono ?_
 rintro e w1 ⟨rfl,hb⟩
 have HB:=Lib.hid hb
 clear hb
 go_wp2_with fail
 refine(C3.out _ HB.out).mono ?_
 rintro e w1 ⟨rfl,rfl⟩
 have R1:=RH.out.up HB.out
 have c8:=R1.cs.c 8 _ rfl
 have y1:=R1.cs.lt
 clear R1
 go_wp2_with fail
 refine(C2.out _ _ HB.out rfl).mono ?_
 rintro e w2 ⟨rfl,hb⟩
 replace HB:=Lib.hid (HB.out.trans (hb.mono HB.out.size))
 clear hb c8 y1
 have R1:=RH.out.up HB.out
 have c13:=R1.cs.c 13 _ rfl
 have c5:=R1.cs.c 5 _ rfl
 have c23:=R1.cs.c 23 _ rfl
 have c24:=R1.cs.c 24 _ rfl
 have c25:=R1.cs.c 25 _ rfl
 have c26:=R1.cs.c 26 _ rfl
 have y1:=R1.cs.lt
 rw[hA] at c5
 obtain⟨d0,d1,d2,d3,d4,d5,y2⟩:=D.out _ HB.out
 obtain⟨so,he,ow,ti,se,ep⟩:=x
 dsimp only at d0 d1 d2 d3 d4 d5 hT hx1
 generalize rp.tk=tk at c23 c24 c25 c26 hT
 obtain⟨t1,t2,t3,t4⟩:=tk
 dsimp only at c23 c24 c25 c26 hT
 have hw:IntKind.u32.wrap (k:Int)=(k:Int):=IntWalk.u32_in _ (by omega)
 clear R1 D RH C1 C2 C3 hx0 hx2
 by_cases hse:se=18446744073709551615
 ·subst hse
  clear hx1
  have tse:((18446744073709551615:Int)==18446744073709551615)=true:=rfl
  obtain rfl:M=true:=by rw[hT.out];simp_all
  go_wp2_with fail
  go_quiet (fail)
  go_wp2_with fail
  go_ret
  exact⟨rfl,bdN (bal HB.out) _⟩
 ·have tse:(se==18446744073709551615)=false:=by simpa using hse
  have hw2:IntKind.u64.wrap (se+1)=se+1:=IntWalk.u64_in _ (by unfold U64 at hx1;omega)
  clear hx1
  by_cases q1:t1=(k:Int)
  ·subst q1
   by_cases q2:t2=op.owner
   ·subst q2
    by_cases q3:t3=se+1
    ·subst q3
     by_cases q4:t4=ep
     ·subst q4
      obtain rfl:M=false:=by rw[hT.out];simp_all
      go_wp2_with fail
      go_quiet (fail)
      go_wp2_with fail
      go_ret
      exact⟨rfl,bdN (bal HB.out) _⟩
     ·have t:(t4==ep)=false:=by simpa using q4
      obtain rfl:M=true:=by rw[hT.out];simp_all
      clear q4
      go_wp2_with fail
      go_quiet (fail)
      go_wp2_with fail
      go_ret
      exact⟨rfl,bdN (bal HB.out) _⟩
    ·have t:(t3==se+1)=false:=by simpa using q3
     obtain rfl:M=true:=by rw[hT.out];simp_all
     clear q3
     go_wp2_with fail
     go_quiet (fail)
     go_wp2_with fail
     go_ret
     exact⟨rfl,bdN (bal HB.out) _⟩
   ·have t:(t2==op.owner)=false:=by simpa using q2
    obtain rfl:M=true:=by rw[hT.out];simp_all
    clear q2
    go_wp2_with fail
    go_quiet (fail)
    go_wp2_with fail
    go_ret
    exact⟨rfl,bdN (bal HB.out) _⟩
  ·have t:(t1==(k:Int))=false:=by simpa using q1
   obtain rfl:M=true:=by rw[hT.out];simp_all
   clear q1
   go_wp2_with fail
   go_quiet (fail)
   go_wp2_with fail
   go_ret
   exact⟨rfl,bdN (bal HB.out) _⟩
end Go.Proofs.YtlckmjiioohcmaaGreatDoor

/-
  Walk of the audit reader's method lost. Conditions: as each theorem says.
-/
import Derived.Test.YtlckmjiioohcmaaGreatDoorAuH
namespace Go.Proofs.YtlckmjiioohcmaaGreatDoor
open Go.RowKit
def rowOf (ve:Ve) (i k:Nat):Int:=match ve.secs[i]? with
 |some x=>(match x.rows[k]? with
  |some r=>r
  |none=>0)
 |none=>0
def lostA (s:Au) (op:MOp) (rp:MRp):Bool:=if isB [1,12] op.kind then false else if !isB [10,11,3] op.kind then(decide (seatA op<0)||decide ((s.seats.length:Int)≤seatA op))
 else if decide (op.section_<0)||decide ((s.waiting.length:Int)≤op.section_) then true else if !isB [3] op.kind then false
 else if(rp.n !=op.n||decide (op.n<1))||decide (8<op.n) then true
 else((placeV s.ve rp.seat).2 !=0||(placeV s.ve rp.seat).1.sec !=op.section_)||decide (rowOf s.ve (placeV s.ve rp.seat).1.sec.toNat (placeV s.ve rp.seat).1.row.toNat<(placeV s.ve rp.seat).1.seat+op.n)
theorem Rd.seatG {W:World} {g:Nat} {F:Frm} {s:Au} {op:MOp} {rp:MRp} (h:Rd W g F s op rp) (w:World) (hw:Below W.heap.size W w):
 Calls Tryz.prog 119 #[.pointer (some ⟨g,0,none⟩)] w fun e w'=>e=.returned (.int .i64 (seatA op))∧Below w.heap.size w w':=
 (h.seatC w hw).mono fun _ _ ⟨h1,h2⟩=>⟨h1,h2▸Below.refl _ _⟩
theorem Rd.venue {W:World} {g:Nat} {F:Frm} {s:Au} {op:MOp} {rp:MRp} (h:Rd W g F s op rp):IsVe W (.agg #[.int .i64 s.ve.shards,.int .i64 s.ve.ttl,.int .i64 s.ve.session,.slice F.V s.ve.secs.length F.vc]) s.ve:=
 ⟨F.V,F.vc,rfl,h.vs,h.bv.1,h.bv.2.1,h.bv.2.2⟩
set_option maxHeartbeats 1000000 in
theorem lostT_any {W:World} {g:Nat} {F:Frm} {s:Au} {op:MOp} {rp:MRp} (R:Rd W g F s op rp) (hq1:isB [1,12] op.kind=true):
 Calls Tryz.prog 154 #[.pointer (some ⟨g,0,none⟩)] W fun e w'=>e=.returned (.bool (lostA s op rp))∧Below W.heap.size W w':=by
 have hT:=Lib.hid (show lostA s op rp=false by simp[lostA,hq1])
 generalize lostA s op rp=M at hT⊢
 have C1:=Lib.hid (R.isC [1,12] (by simp[Bd]) (by simp))
 rw[hq1] at C1
 have RH:=Lib.hid R
 have HB:=Lib.hid (Below.refl W.heap.size W)
 clear R hq1
 go_enter Tryz.func154,Tryz.ntmps154
 go_wp2_with fail
 refine(C1.out _ _ HB.out rfl).mono ?_
 rintro e w1 ⟨rfl,hb⟩
 replace HB:=Lib.hid (HB.out.trans (hb.mono HB.out.size))
 clear hb
 go_wp2_with fail
 go_ret
 exact⟨ret_bool hT.out.symm,HB.out⟩
set_option maxHeartbeats 2000000 in
theorem lostS_any {W:World} {g:Nat} {F:Frm} {s:Au} {op:MOp} {rp:MRp} (R:Rd W g F s op rp) (hq1:isB [1,12] op.kind=false) (hq2:isB [10,11,3] op.kind=false):
 Calls Tryz.prog 154 #[.pointer (some ⟨g,0,none⟩)] W fun e w'=>e=.returned (.bool (lostA s op rp))∧Below W.heap.size W w':=by
 have hT:=Lib.hid (show lostA s op rp=(decide (seatA op<0)||decide ((s.seats.length:Int)≤seatA op)) by simp[lostA,hq1,hq2])
 generalize lostA s op rp=M at hT⊢
 have C1:=Lib.hid (R.isC [1,12] (by simp[Bd]) (by simp))
 rw[hq1] at C1
 have C2:=Lib.hid (R.isC [10,11,3] (by simp[Bd]) (by simp))
 rw[hq2] at C2
 have RH:=Lib.hid R
 have HB:=Lib.hid (Below.refl W.heap.size W)
 have C4:=Lib.hid R.seatG
 clear R hq1 hq2
 generalize seatA op=x at C4 hT
 go_enter Tryz.func154,Tryz.ntmps154
 go_wp2_with fail
 refine(C1.out _ _ HB.out rfl).mono ?_
 rintro e w1 ⟨rfl,hb⟩
 replace HB:=Lib.hid (HB.out.trans (hb.mono HB.out.size))
 clear hb
 go_wp2_with fail
 refine(C2.out _ _ HB.out rfl).mono ?_
 rintro e w2 ⟨rfl,hb⟩
 replace HB:=Lib.hid (HB.out.trans (hb.mono HB.out.size))
 clear hb
 have R1:=RH.out.up HB.out
 have c5:=gro_cell (R1.cs.c 5 _ rfl)
 have y1:=R1.cs.lt
 clear R1
 go_wp2_with fail
 by_cases h0:x<0
 ·have t0:decide (x<0)=true:=decide_eq_true h0
  refine wp_region_gro (by kernel_rfl) (by kernel_rfl) ?_
  repeat(go_big_quiet_step (first|(go_at_call 119;exact Calls.gro_of (C4.out _ (HB.out.trans ((gro_below _ _).mono HB.out.size))))|fail))
  refine wpQuiet_nil ?_
  refine gro_end fun W2 hb2=> ?_
  go_wp2_with fail
  go_ret
  exact⟨ret_bool (by rw[hT.out,t0];rfl),HB.out.trans (hb2.mono HB.out.size)⟩
 ·have t0:decide (x<0)=false:=decide_eq_false h0
  refine wp_region_gro (by kernel_rfl) (by kernel_rfl) ?_
  repeat(go_big_quiet_step (first|(go_at_call 119;exact Calls.gro_of (C4.out _ (HB.out.trans ((gro_below _ _).mono HB.out.size))))|fail))
  refine wpQuiet_nil ?_
  refine gro_end fun W2 hb2=> ?_
  go_wp2_with fail
  go_ret
  exact⟨ret_bool (by rw[hT.out,t0];rfl),HB.out.trans (hb2.mono HB.out.size)⟩
set_option maxHeartbeats 2000000 in
theorem lostX_any {W:World} {g:Nat} {F:Frm} {s:Au} {op:MOp} {rp:MRp} (R:Rd W g F s op rp) (hq1:isB [1,12] op.kind=false) (hq2:isB [10,11,3] op.kind=true) (hx:op.section_<0∨(s.waiting.length:Int)≤op.section_):
 Calls Tryz.prog 154 #[.pointer (some ⟨g,0,none⟩)] W fun e w'=>e=.returned (.bool (lostA s op rp))∧Below W.heap.size W w':=by
 have hT:=Lib.hid (show lostA s op rp=true by simp[lostA,hq1,hq2,hx])
 generalize lostA s op rp=M at hT⊢
 have C1:=Lib.hid (R.isC [1,12] (by simp[Bd]) (by simp))
 rw[hq1] at C1
 have C2:=Lib.hid (R.isC [10,11,3] (by simp[Bd]) (by simp))
 rw[hq2] at C2
 have RH:=Lib.hid R
 have HB:=Lib.hid (Below.refl W.heap.size W)
 clear R hq1 hq2
 go_enter Tryz.func154,Tryz.ntmps154
 go_wp2_with fail
 refine(C1.out _ _ HB.out rfl).mono ?_
 rintro e w1 ⟨rfl,hb⟩
 replace HB:=Lib.hid (HB.out.trans (hb.mono HB.out.size))
 clear hb
 go_wp2_with fail
 refine(C2.out _ _ HB.out rfl).mono ?_
 rintro e w2 ⟨rfl,hb⟩
 replace HB:=Lib.hid (HB.out.trans (hb.mono HB.out.size))
 clear hb
 have R1:=RH.out.up HB.out
 have c6:=R1.cs.c 6 _ rfl
 have c11:=R1.cs.c 11 _ rfl
 have y1:=R1.cs.lt
 clear R1
 generalize op.section_=x at c11 hx
 by_cases h0:x<0
 ·have t0:decide (x<0)=true:=decide_eq_true h0
  clear hx
  go_wp2_with fail
  go_quiet (fail)
  go_wp2_with fail
  go_ret
  exact⟨ret_bool hT.out.symm,bdN HB.out _⟩
 ·have t0:decide (x<0)=false:=decide_eq_false h0
  have t1:decide ((s.waiting.length:Int)≤x)=true:=decide_eq_true (by omega)
  clear hx
  go_wp2_with fail
  go_quiet (fail)
  go_wp2_with fail
  go_ret
  exact⟨ret_bool hT.out.symm,bdN HB.out _⟩
set_option maxHeartbeats 2000000 in
theorem lostJ_any {W:World} {g:Nat} {F:Frm} {s:Au} {op:MOp} {rp:MRp} (R:Rd W g F s op rp) (hq1:isB [1,12] op.kind=false) (hq2:isB [10,11,3] op.kind=true) (hq3:isB [3] op.kind=false) {k:Nat} (hk:op.section_=(k:Int)) (hlt:k<s.waiting.length):
 Calls Tryz.prog 154 #[.pointer (some ⟨g,0,none⟩)] W fun e w'=>e=.returned (.bool (lostA s op rp))∧Below W.heap.size W w':=by
 have hT:=Lib.hid (show lostA s op rp=false by simp only[lostA,hq1,hq2,hq3];simp[hk,hlt])
 generalize lostA s op rp=M at hT⊢
 have C1:=Lib.hid (R.isC [1,12] (by simp[Bd]) (by simp))
 rw[hq1] at C1
 have C2:=Lib.hid (R.isC [10,11,3] (by simp[Bd]) (by simp))
 rw[hq2] at C2
 have C3:=Lib.hid (R.isC [3] (by simp[Bd]) (by simp))
 rw[hq3] at C3
 have RH:=Lib.hid R
 have HB:=Lib.hid (Below.refl W.heap.size W)
 clear R hq1 hq2 hq3
 go_enter Tryz.func154,Tryz.ntmps154
 go_wp2_with fail
 refine(C1.out _ _ HB.out rfl).mono ?_
 rintro e w1 ⟨rfl,hb⟩
 replace HB:=Lib.hid (HB.out.trans (hb.mono HB.out.size))
 clear hb
 go_wp2_with fail
 refine(C2.out _ _ HB.out rfl).mono ?_
 rintro e w2 ⟨rfl,hb⟩
 replace HB:=Lib.hid (HB.out.trans (hb.mono HB.out.size))
 clear hb
 have R1:=RH.out.up HB.out
 have c6:=R1.cs.c 6 _ rfl
 have c11:=R1.cs.c 11 _ rfl
 have y1:=R1.cs.lt
 clear R1
 rw[hk] at c11
 have t0:decide ((k:Int)<0)=false:=decide_eq_false (by omega)
 have t1:decide ((s.waiting.length:Int)≤(k:Int))=false:=decide_eq_false (by omega)
 go_wp2_with fail
 go_quiet (fail)
 replace HB:=Lib.hid (bdN HB.out nq)
 go_wp2_with fail
 refine(C3.out _ _ HB.out rfl).mono ?_
 rintro e w3 ⟨rfl,hb⟩
 replace HB:=Lib.hid (HB.out.trans (hb.mono HB.out.size))
 clear hb
 go_wp2_with fail
 go_ret
 exact⟨ret_bool hT.out.symm,HB.out⟩
set_option maxHeartbeats 2000000 in
theorem lostN_any {W:World} {g:Nat} {F:Frm} {s:Au} {op:MOp} {rp:MRp} (R:Rd W g F s op rp) (hq1:isB [1,12] op.kind=false) (hq2:isB [10,11,3] op.kind=true) (hq3:isB [3] op.kind=true) {k:Nat} (hk:op.section_=(k:Int)) (hlt:k<s.waiting.length) (hn:rp.n≠op.n∨op.n<1∨8<op.n):
 Calls Tryz.prog 154 #[.pointer (some ⟨g,0,none⟩)] W fun e w'=>e=.returned (.bool (lostA s op rp))∧Below W.heap.size W w':=by
 have hT:=Lib.hid (show lostA s op rp=true by simp only[lostA,hq1,hq2,hq3];simp[hk];omega)
 generalize lostA s op rp=M at hT⊢
 have C1:=Lib.hid (R.isC [1,12] (by simp[Bd]) (by simp))
 rw[hq1] at C1
 have C2:=Lib.hid (R.isC [10,11,3] (by simp[Bd]) (by simp))
 rw[hq2] at C2
 have C3:=Lib.hid (R.isC [3] (by simp[Bd]) (by simp))
 rw[hq3] at C3
 have RH:=Lib.hid R
 have HB:=Lib.hid (Below.refl W.heap.size W)
 clear R hq1 hq2 hq3
 go_enter Tryz.func154,Tryz.ntmps154
 go_wp2_with fail
 refine(C1.out _ _ HB.out rfl).mono ?_
 rintro e w1 ⟨rfl,hb⟩
 replace HB:=Lib.hid (HB.out.trans (hb.mono HB.out.size))
 clear hb
 go_wp2_with fail
 refine(C2.out _ _ HB.out rfl).mono ?_
 rintro e w2 ⟨rfl,hb⟩
 replace HB:=Lib.hid (HB.out.trans (hb.mono HB.out.size))
 clear hb
 have R1:=RH.out.up HB.out
 have c6:=R1.cs.c 6 _ rfl
 have c11:=R1.cs.c 11 _ rfl
 have y1:=R1.cs.lt
 clear R1
 rw[hk] at c11
 have t0:decide ((k:Int)<0)=false:=decide_eq_false (by omega)
 have t1:decide ((s.waiting.length:Int)≤(k:Int))=false:=decide_eq_false (by omega)
 go_wp2_with fail
 go_quiet (fail)
 replace HB:=Lib.hid (bdN HB.out nq)
 go_wp2_with fail
 refine(C3.out _ _ HB.out rfl).mono ?_
 rintro e w3 ⟨rfl,hb⟩
 replace HB:=Lib.hid (HB.out.trans (hb.mono HB.out.size))
 clear hb
 clear c6 c11 y1 t0 t1
 have R1:=RH.out.up HB.out
 have c12:=R1.cs.c 12 _ rfl
 have c21:=R1.cs.c 21 _ rfl
 have y1:=R1.cs.lt
 clear R1
 generalize op.n=x at c12 hn
 generalize rp.n=y at c21 hn
 by_cases h0:y=x
 ·subst h0
  have t0:(y !=y)=false:=by simp
  by_cases h1:y<1
  ·have t1:decide (y<1)=true:=decide_eq_true h1
   clear hn
   go_wp2_with fail
   go_quiet (fail)
   go_wp2_with fail
   go_ret
   exact⟨ret_bool hT.out.symm,bdN HB.out _⟩
  ·have t1:decide (y<1)=false:=decide_eq_false h1
   have t2:decide (8<y)=true:=decide_eq_true (by omega)
   clear hn
   go_wp2_with fail
   go_quiet (fail)
   go_wp2_with fail
   go_ret
   exact⟨ret_bool hT.out.symm,bdN HB.out _⟩
 ·have t0:(y !=x)=true:=by simpa using h0
  clear hn h0
  go_wp2_with fail
  go_quiet (fail)
  go_wp2_with fail
  go_ret
  exact⟨ret_bool hT.out.symm,bdN HB.out _⟩
end Go.Proofs.YtlckmjiioohcmaaGreatDoor

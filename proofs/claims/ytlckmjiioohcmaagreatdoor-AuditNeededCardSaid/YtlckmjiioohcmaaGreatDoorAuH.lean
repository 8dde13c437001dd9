/-
  Walk of the audit reader's method list. Conditions: as the theorem says.
-/
import Derived.Test.YtlckmjiioohcmaaGreatDoorAuG
import Derived.Test.YtlckmjiioohcmaaGreatDoorLib
namespace Go.Proofs.YtlckmjiioohcmaaGreatDoor
open Go.RowKit
def queueOf (ve:Ve) (i:Nat):Int:=match ve.secs[i]? with
 |some x=>x.queue
 |none=>0
def waitOf (ws:List Int) (i:Nat):Int:=match ws[i]? with
 |some x=>x
 |none=>0
def listA (ve:Ve) (ws:List Int) (op:MOp) (rp:MRp):Bool:=if isB [11] op.kind then waitOf ws op.section_.toNat==0 else
 isB [10] op.kind&&(decide (rp.place<1)||decide (min (queueOf ve op.section_.toNat) (waitOf ws op.section_.toNat+1)<rp.place))
set_option maxHeartbeats 1000000 in
theorem list11_any {W:World} {g:Nat} {F:Frm} {s:Au} {op:MOp} {rp:MRp} (R:Rd W g F s op rp) (hq:isB [11] op.kind=true) {k:Nat} (hk:op.section_=(k:Int)) (hlt:k<s.waiting.length):
 Calls Tryz.prog 163 #[.pointer (some ⟨g,0,none⟩)] W fun e w'=>e=.returned (.bool (listA s.ve s.waiting op rp))∧Below W.heap.size W w':=by
 obtain⟨b,off,hA,hbl,d0,hx⟩:=R.ws.atI hlt
 have hT:=Lib.hid (show listA s.ve s.waiting op rp=(s.waiting[k]==0) by simp[listA,hq,hk,waitOf,List.getElem?_eq_getElem hlt])
 generalize listA s.ve s.waiting op rp=M at hT⊢
 generalize s.waiting[k]=x at d0 hT hx
 have C1:=Lib.hid (R.isC [11] (by simp[Bd]) (by simp))
 rw[hq] at C1
 have RH:=Lib.hid R
 clear R hq
 go_enter Tryz.func163,Tryz.ntmps163
 go_wp2_with fail
 refine(C1.out _ _ (Below.refl _ _) rfl).mono ?_
 rintro e w1 ⟨rfl,hb⟩
 have R1:=RH.out.up hb
 have c6:=R1.cs.c 6 _ rfl
 have c11:=R1.cs.c 11 _ rfl
 have y1:=R1.cs.lt
 rw[hA] at c6
 rw[hk] at c11
 have d0:=cell_later hb d0
 have y2:b<w1.heap.size:=Nat.lt_of_lt_of_le hbl hb.size
 have HB:=Lib.hid hb
 clear hb R1
 go_wp2_with fail
 go_quiet (fail)
 go_wp2_with fail
 go_ret
 exact⟨ret_bool hT.out.symm,bdN HB.out _⟩
set_option maxHeartbeats 1000000 in
theorem listN_any {W:World} {g:Nat} {F:Frm} {s:Au} {op:MOp} {rp:MRp} (R:Rd W g F s op rp) (hq:isB [11] op.kind=false) (hq2:isB [10] op.kind=false):
 Calls Tryz.prog 163 #[.pointer (some ⟨g,0,none⟩)] W fun e w'=>e=.returned (.bool (listA s.ve s.waiting op rp))∧Below W.heap.size W w':=by
 have hT:=Lib.hid (show listA s.ve s.waiting op rp=false by simp[listA,hq,hq2])
 generalize listA s.ve s.waiting op rp=M at hT⊢
 have C1:=Lib.hid (R.isC [11] (by simp[Bd]) (by simp))
 have C2:=Lib.hid (R.isC [10] (by simp[Bd]) (by simp))
 rw[hq] at C1
 rw[hq2] at C2
 have HB0:=Lib.hid R.cs.lt
 clear R hq hq2
 go_enter Tryz.func163,Tryz.ntmps163
 go_wp2_with fail
 refine(C1.out _ _ (Below.refl _ _) rfl).mono ?_
 rintro e w1 ⟨rfl,hb⟩
 have HB:=Lib.hid hb
 clear hb
 go_wp2_with fail
 refine wp_region_front 4 (by kernel_rfl) (by kernel_rfl) (fun _ _ _ _ _ h=>h) fun K hK=> ?_
 go_wp2_with (go_at_call 115;refine(C2.out _ _ (bdd HB.out) rfl).mono ?_;rintro e w9 ⟨rfl,hb9⟩)
 have hbX:Below W.heap.size W w9:=(bdd HB.out).trans (hb9.mono (bdd HB.out).size)
 refine hK.out _ _ ?_
 clear hK K
 simp only[List.drop_succ_cons,List.drop_zero]
 repeat(go_big_quiet_step (fail))
 refine wpQuiet_nil ?_
 refine gro_end fun W2 hb2=> ?_
 go_wp2_with fail
 go_ret
 exact⟨ret_bool hT.out.symm,hbX.trans (hb2.mono hbX.size)⟩
set_option maxHeartbeats 2000000 in
theorem list10_any {W:World} {g:Nat} {F:Frm} {s:Au} {op:MOp} {rp:MRp} (R:Rd W g F s op rp) (hq:isB [11] op.kind=false) (hq2:isB [10] op.kind=true) {k:Nat} (hk:op.section_=(k:Int)) (hlt:k<s.waiting.length) (hlt2:k<s.ve.secs.length)
 (hw:s.waiting[k]<9223372036854775807):
 Calls Tryz.prog 163 #[.pointer (some ⟨g,0,none⟩)] W fun e w'=>e=.returned (.bool (listA s.ve s.waiting op rp))∧Below W.heap.size W w':=by
 obtain⟨b,off,hA,hbl,d0,hx⟩:=R.ws.atI hlt
 obtain⟨b2,off2,A',c',hA2,hbl2,_,_,e2,_,_,_⟩:=R.vs.atS hlt2
 have hT:=Lib.hid (show listA s.ve s.waiting op rp=(decide (rp.place<1)||decide (min (s.ve.secs[k]).queue (s.waiting[k]+1)<rp.place)) by simp[listA,hq,hq2,hk,waitOf,queueOf,List.getElem?_eq_getElem hlt,List.getElem?_eq_getElem hlt2])
 generalize listA s.ve s.waiting op rp=M at hT⊢
 generalize s.waiting[k]=x at d0 hT hx hw
 generalize(s.ve.secs[k]).queue=y at e2 hT
 have C1:=Lib.hid (R.isC [11] (by simp[Bd]) (by simp))
 have C2:=Lib.hid (R.isC [10] (by simp[Bd]) (by simp))
 rw[hq] at C1
 rw[hq2] at C2
 have RH:=Lib.hid R
 clear R hq hq2
 have hwr:IntKind.i64.wrap (x+1)=x+1:=IntWalk.i64_in _ (by unfold Bd at hx;omega)
 clear hx hw
 go_enter Tryz.func163,Tryz.ntmps163
 go_wp2_with fail
 refine(C1.out _ _ (Below.refl _ _) rfl).mono ?_
 rintro e w1 ⟨rfl,hb⟩
 have HB:=Lib.hid hb
 clear hb
 go_wp2_with fail
 refine wp_region_front 4 (by kernel_rfl) (by kernel_rfl) (fun _ _ _ _ _ h=>h) fun K hK=> ?_
 go_wp2_with (go_at_call 115;refine(C2.out _ _ (bdd HB.out) rfl).mono ?_;rintro e w9 ⟨rfl,hb9⟩)
 have hbX:Below W.heap.size W w9:=(bdd HB.out).trans (hb9.mono (bdd HB.out).size)
 refine hK.out _ _ ?_
 clear hK K
 have R1:=RH.out.up hbX
 have c3:=R1.cs.c 3 _ rfl
 have c6:=R1.cs.c 6 _ rfl
 have c11:=R1.cs.c 11 _ rfl
 have c27:=R1.cs.c 27 _ rfl
 have y1:=R1.cs.lt
 rw[hA] at c6
 rw[hA2] at c3
 rw[hk] at c11
 replace d0:=gro_cell (cell_later hbX d0)
 replace e2:=gro_cell (cell_later hbX e2)
 replace c3:=gro_cell c3
 replace c6:=gro_cell c6
 replace c11:=gro_cell c11
 replace c27:=gro_cell c27
 have y2:b<w9.heap.size:=Nat.lt_of_lt_of_le hbl hbX.size
 have y3:b2<w9.heap.size:=Nat.lt_of_lt_of_le hbl2 hbX.size
 have HX:=Lib.hid hbX
 clear R1 RH hbX HB hb9 C1 C2
 by_cases hp:rp.place<1
 ·obtain rfl:M=true:=by rw[hT.out];simp[hp]
  simp only[List.drop_succ_cons,List.drop_zero]
  repeat(go_big_quiet_step (fail))
  refine wpQuiet_nil ?_
  refine gro_end fun W2 hb2=> ?_
  go_wp2_with fail
  go_ret
  exact⟨rfl,HX.out.trans (hb2.mono HX.out.size)⟩
 ·obtain rfl:M=decide (min y (x+1)<rp.place):=by rw[hT.out];simp[hp]
  simp only[List.drop_succ_cons,List.drop_zero]
  repeat(go_big_quiet_step (fail))
  refine wpQuiet_nil ?_
  refine gro_end fun W2 hb2=> ?_
  go_wp2_with fail
  go_ret
  exact⟨rfl,HX.out.trans (hb2.mono HX.out.size)⟩
end Go.Proofs.YtlckmjiioohcmaaGreatDoor

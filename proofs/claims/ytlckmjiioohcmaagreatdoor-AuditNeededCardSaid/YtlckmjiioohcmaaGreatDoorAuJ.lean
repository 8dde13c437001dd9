/-
  Walk of the audit reader's method lost where seats side by side are asked for. Conditions: as each theorem says.
-/
import Derived.Test.YtlckmjiioohcmaaGreatDoorAuI
import Derived.Test.YtlckmjiioohcmaaGreatDoorAuB
namespace Go.Proofs.YtlckmjiioohcmaaGreatDoor
open Go.RowKit
theorem placeV_ok {x:Ve} {seat:Int} (h:(placeV x seat).2=0):∃i,∃hi:i<x.secs.length,∃k,∃hk:k<x.secs[i].rows.length,∃d,(placeV x seat).1=⟨(i:Int),(k:Int),d⟩∧0≤d∧d<x.secs[i].rows[k]∧x.secs[i].rows[k]≤64∧
 seat=sum ((x.secs.take i).flatMap (·.rows))+sum (x.secs[i].rows.take k)+d:=by
 have hf:(findV x seat).2=0:=by
  unfold placeV at h
  split at h
  ·exact h
  ·rename_i h1;exact Decidable.not_not.1 h1
 obtain⟨hc,hm,h1,h2⟩:=findV_ok hf
 obtain⟨j,hj,k,hk,e1,e2,e3,e4⟩:=mem_rws hm
 have hb:=rw_bd (checkV_ok hc).1 hm
 refine⟨j,hj,k,hk,seat-(findV x seat).1.first, ?_,by omega,by omega,by omega,by omega⟩
 simp only[placeV,hf]
 rw[if_neg (by simp),e1,e2]
 simp
set_option maxHeartbeats 4000000 in
theorem lostP_any {W:World} {g:Nat} {F:Frm} {s:Au} {op:MOp} {rp:MRp} (R:Rd W g F s op rp) (hq1:isB [1,12] op.kind=false) (hq2:isB [10,11,3] op.kind=true) (hq3:isB [3] op.kind=true) {k:Nat} (hk:op.section_=(k:Int)) (hlt:k<s.waiting.length) (hn:rp.n=op.n) (hn1:1≤op.n) (hn2:op.n≤8):
 Calls Tryz.prog 154 #[.pointer (some ⟨g,0,none⟩)] W fun e w'=>e=.returned (.bool (lostA s op rp))∧Below W.heap.size W w':=by
 have hT:=Lib.hid (show lostA s op rp=(((placeV s.ve rp.seat).2 !=0||(placeV s.ve rp.seat).1.sec !=(k:Int))||decide (rowOf s.ve (placeV s.ve rp.seat).1.sec.toNat (placeV s.ve rp.seat).1.row.toNat<(placeV s.ve rp.seat).1.seat+op.n)) by have a1:decide ((k:Int)<0)=false:=decide_eq_false (by omega);have a2:decide ((s.waiting.length:Int)≤(k:Int))=false:=decide_eq_false (by omega);have a3:decide (op.n<1)=false:=decide_eq_false (by omega);have a4:decide (8<op.n)=false:=decide_eq_false (by omega);simp only[lostA,hq1,hq2,hq3,hk,hn,a1,a2,a3,a4];simp)
 generalize lostA s op rp=M at hT⊢
 have C1:=Lib.hid (R.isC [1,12] (by simp[Bd]) (by simp))
 rw[hq1] at C1
 have C2:=Lib.hid (R.isC [10,11,3] (by simp[Bd]) (by simp))
 rw[hq2] at C2
 have C3:=Lib.hid (R.isC [3] (by simp[Bd]) (by simp))
 rw[hq3] at C3
 have RH:=Lib.hid R
 have HB:=Lib.hid (Below.refl W.heap.size W)
 have CP:=Lib.hid (fun w (hb:Below W.heap.size W w)=>place_any _ s.ve rp.seat w (R.up hb).venue)
 have hok:=Lib.hid (fun h=>placeV_ok (x:=s.ve) (seat:=rp.seat) h)
 generalize placeV s.ve rp.seat=PP at CP hT hok
 obtain⟨⟨p1,p2,p3⟩,pe⟩:=PP
 dsimp only at CP hT hok
 clear R hq1 hq2 hq3
 go_enter Tryz.func154,Tryz.ntmps154
 go_wp2_with fail
 refine(C1.out _ _ HB.out rfl).mono ?_
 rintro e w1 ⟨rfl,hb⟩
 replace HB:=Lib.hid (HB.out.trans (hb.mono HB.out.size))
 clear hb
 go_wp2_with fail
 refine(C2.out _ _ HB.out rfl).mono ?_
 rintro e w2 ⟨rfl,hb⟩
 replace HB:=Lib.hid (HB.out.trans (hb.mono HB.out.size))
 clear hb
 have R1:=RH.out.up HB.out
 have c6:=R1.cs.c 6 _ rfl
 have c11:=R1.cs.c 11 _ rfl
 have y1:=R1.cs.lt
 clear R1
 rw[hk] at c11
 have t0:decide ((k:Int)<0)=false:=decide_eq_false (by omega)
 have t1:decide ((s.waiting.length:Int)≤(k:Int))=false:=decide_eq_false (by omega)
 go_wp2_with fail
 go_quiet (fail)
 replace HB:=Lib.hid (bdN HB.out nq)
 go_wp2_with fail
 refine(C3.out _ _ HB.out rfl).mono ?_
 rintro e w3 ⟨rfl,hb⟩
 replace HB:=Lib.hid (HB.out.trans (hb.mono HB.out.size))
 clear hb
 clear c6 c11 y1 t0 t1 C1 C2 C3
 have R1:=RH.out.up HB.out
 have c12:=R1.cs.c 12 _ rfl
 have c21:=R1.cs.c 21 _ rfl
 have y1:=R1.cs.lt
 clear R1
 rw[hn] at c21
 have t0:(op.n !=op.n)=false:=by simp
 have t1:decide (op.n<1)=false:=decide_eq_false (by omega)
 have t2:decide (8<op.n)=false:=decide_eq_false (by omega)
 go_wp2_with fail
 go_quiet (fail)
 replace HB:=Lib.hid (bdN HB.out nq)
 clear c12 c21 y1 t0 t1 t2
 obtain⟨W3,hW⟩:∃w,w=w3.drewN nq:=⟨_,rfl⟩
 rw[←hW] at HB⊢
 clear hW
 have R1:=RH.out.up HB.out
 have c0:=R1.cs.c 0 _ rfl
 have c1:=R1.cs.c 1 _ rfl
 have c2:=R1.cs.c 2 _ rfl
 have c3:=R1.cs.c 3 _ rfl
 have c20:=R1.cs.c 20 _ rfl
 have y1:=R1.cs.lt
 clear R1
 go_wp2_with fail
 go_region_held3 (fun w=>w.cell? ⟨g,0,none⟩=some (.int .i64 s.ve.shards)∧w.cell? ⟨g,1,none⟩=some (.int .i64 s.ve.ttl)∧w.cell? ⟨g,2,none⟩=some (.int .i64 s.ve.session)∧w.cell? ⟨g,3,none⟩=some (.slice F.V s.ve.secs.length F.vc)∧w.cell? ⟨g,20,none⟩=some (.int .i64 rp.seat))
  (exact⟨by first|assumption|go_simp,by first|assumption|go_simp,by first|assumption|go_simp,by first|assumption|go_simp,by first|assumption|go_simp⟩)
  (first
   |(go_at_call 184;refine(CP.out _ (by first|exact bdd HB.out|exact bdd (bal HB.out)|fail)).mono ?_;rintro e w9 ⟨rfl,hb9⟩;have hbX:Below W3.heap.size W3 w9:=(by first|exact(bdd (Below.refl _ _)).trans hb9|exact(bdd (bal (Below.refl _ _))).trans (hb9.mono (by simp)));have c0':=cell_later hbX c0;have c1':=cell_later hbX c1;have c2':=cell_later hbX c2;have c3':=cell_later hbX c3;have c20':=cell_later hbX c20;have y1':g<w9.heap.size:=Nat.lt_of_lt_of_le y1 hbX.size;have n1':g≠w9.heap.size:=Nat.ne_of_lt y1';have n2':g≠W3.heap.size:=Nat.ne_of_lt y1;(first|(have KZ:=Lib.hid ((show Cells ((W3.alloc (.cells #[.int .i64 0,.int .i64 0,.int .i64 0] 157)).drew) W3.heap.size [.int .i64 0,.int .i64 0,.int .i64 0] from(Cells.new W3 [.int .i64 0,.int .i64 0,.int .i64 0] 157).drew).later hb9);have x0:=KZ.out.c 0 _ rfl;have x1:=KZ.out.c 1 _ rfl;have x2:=KZ.out.c 2 _ rfl;have xf0:=KZ.out.f 0;have xf1:=KZ.out.f 1;have xf2:=KZ.out.f 2)|skip))
   |fail)
 ·refine at_world (fun w=>Below W.heap.size W w∧Cells w w9.heap.size [.int .i64 p1,.int .i64 p2,.int .i64 p3]) (by clear c0 c1 c2 c3 c20 c0' c1' c2' c3' c20';exact⟨bal (HB.out.trans (hbX.mono HB.out.size)),Cells.new _ _ _⟩) fun W9 ⟨hbY,kY⟩=> ?_
  clear c0 c1 c2 c3 c20 c0' c1' c2' c3' c20' y1 y1' n1' n2'
  have HY:=Lib.hid hbY
  have KY:=Lib.hid kY
  clear hbY kY
  have R1:=RH.out.up HY.out
  have c3:=R1.cs.c 3 _ rfl
  have c11:=R1.cs.c 11 _ rfl
  have c12:=R1.cs.c 12 _ rfl
  rw[hk] at c11
  have y1:=R1.cs.lt
  have t0:=KY.out.c 0 _ rfl
  have t1:=KY.out.c 1 _ rfl
  have t2:=KY.out.c 2 _ rfl
  have y2:=KY.out.lt
  clear R1
  by_cases q0:pe=0
  case neg=>
   have b0:(pe !=0)=true:=by simpa using q0
   obtain rfl:M=true:=by rw[hT.out,b0];rfl
   clear hT hok q0
   go_wp2_with fail
   go_quiet (fail)
   go_wp2_with fail
   go_ret
   exact⟨rfl,bdN HY.out _⟩
  subst q0
  have b0:((0:Int) !=0)=false:=rfl
  by_cases q1:p1=(k:Int)
  case neg=>
   have b1:(p1 !=(k:Int))=true:=by simpa using q1
   obtain rfl:M=true:=by rw[hT.out,b1];rfl
   clear hT hok q1
   go_wp2_with fail
   go_quiet (fail)
   go_wp2_with fail
   go_ret
   exact⟨rfl,bdN HY.out _⟩
  obtain⟨i,hi,j,hj,d,he,hd0,hd1,hd2,_⟩:=hok.out rfl
  injection he with e1 e2 e3
  subst e1 e2 e3
  rw[←q1] at c11 hT
  have b1:((i:Int) !=(i:Int))=false:=by simp
  obtain⟨b,off,A',c',hV,hbl,_,g1,_,hin,_,_⟩:=(RH.out.up HY.out).vs.atS hi
  rw[hV] at c3
  obtain⟨b2,off2,hA',hbl2,g2,_⟩:=hin.atI hj
  have hrow:rowOf s.ve i j=s.ve.secs[i].rows[j]:=by simp[rowOf,List.getElem?_eq_getElem hi,List.getElem?_eq_getElem hj]
  have hM:=Lib.hid (show M=decide (s.ve.secs[i].rows[j]<p3+op.n) by rw[hT.out,b1,←hrow];simp)
  rw[hA'] at g1
  have hw:IntKind.i64.wrap (p3+op.n)=p3+op.n:=IntWalk.i64_in _ (by omega)
  have i1:(i:Int)<(s.ve.secs.length:Int):=by omega
  have i2:(j:Int)<(s.ve.secs[i].rows.length:Int):=by omega
  clear hT hok hrow hin hV hA' q1 hd1 hd2
  generalize s.ve.secs[i].rows[j]=z at g2 hM
  generalize s.ve.secs[i].rows.length=zl at g1 i2
  go_wp2_with fail
  go_quiet (fail)
  go_wp2_with fail
  go_ret
  exact⟨ret_bool hM.out.symm,bdN HY.out _⟩
 ·refine at_world (fun w=>Below W.heap.size W w∧Cells w W3.heap.size [.int .i64 p1,.int .i64 p2,.int .i64 p3]) (by obtain⟨kq,hgq⟩:=KZ.out.put [.int .i64 p1,.int .i64 p2,.int .i64 p3] rfl;exact⟨(HB.out.trans (hbX.mono HB.out.size)).grown hgq (HB.out.trans (hbX.mono HB.out.size)).size (fun k hk=>by injection hk;have:=HB.out.size;omega),kq⟩) fun W9 ⟨hbY,kY⟩=> ?_
  clear c0 c1 c2 c3 c20 c0' c1' c2' c3' c20' y1 y1' n1' n2' x0 x1 x2 xf0 xf1 xf2 KZ
  have HY:=Lib.hid hbY
  have KY:=Lib.hid kY
  clear hbY kY
  have R1:=RH.out.up HY.out
  have c3:=R1.cs.c 3 _ rfl
  have c11:=R1.cs.c 11 _ rfl
  have c12:=R1.cs.c 12 _ rfl
  rw[hk] at c11
  have y1:=R1.cs.lt
  have t0:=KY.out.c 0 _ rfl
  have t1:=KY.out.c 1 _ rfl
  have t2:=KY.out.c 2 _ rfl
  have y2:=KY.out.lt
  clear R1
  by_cases q0:pe=0
  case neg=>
   have b0:(pe !=0)=true:=by simpa using q0
   obtain rfl:M=true:=by rw[hT.out,b0];rfl
   clear hT hok q0
   go_wp2_with fail
   go_quiet (fail)
   go_wp2_with fail
   go_ret
   exact⟨rfl,bdN HY.out _⟩
  subst q0
  have b0:((0:Int) !=0)=false:=rfl
  by_cases q1:p1=(k:Int)
  case neg=>
   have b1:(p1 !=(k:Int))=true:=by simpa using q1
   obtain rfl:M=true:=by rw[hT.out,b1];rfl
   clear hT hok q1
   go_wp2_with fail
   go_quiet (fail)
   go_wp2_with fail
   go_ret
   exact⟨rfl,bdN HY.out _⟩
  obtain⟨i,hi,j,hj,d,he,hd0,hd1,hd2,_⟩:=hok.out rfl
  injection he with e1 e2 e3
  subst e1 e2 e3
  rw[←q1] at c11 hT
  have b1:((i:Int) !=(i:Int))=false:=by simp
  obtain⟨b,off,A',c',hV,hbl,_,g1,_,hin,_,_⟩:=(RH.out.up HY.out).vs.atS hi
  rw[hV] at c3
  obtain⟨b2,off2,hA',hbl2,g2,_⟩:=hin.atI hj
  have hrow:rowOf s.ve i j=s.ve.secs[i].rows[j]:=by simp[rowOf,List.getElem?_eq_getElem hi,List.getElem?_eq_getElem hj]
  have hM:=Lib.hid (show M=decide (s.ve.secs[i].rows[j]<p3+op.n) by rw[hT.out,b1,←hrow];simp)
  rw[hA'] at g1
  have hw:IntKind.i64.wrap (p3+op.n)=p3+op.n:=IntWalk.i64_in _ (by omega)
  have i1:(i:Int)<(s.ve.secs.length:Int):=by omega
  have i2:(j:Int)<(s.ve.secs[i].rows.length:Int):=by omega
  clear hT hok hrow hin hV hA' q1 hd1 hd2
  generalize s.ve.secs[i].rows[j]=z at g2 hM
  generalize s.ve.secs[i].rows.length=zl at g1 i2
  go_wp2_with fail
  go_quiet (fail)
  go_wp2_with fail
  go_ret
  exact⟨ret_bool hM.out.symm,bdN HY.out _⟩
end Go.Proofs.YtlckmjiioohcmaaGreatDoor

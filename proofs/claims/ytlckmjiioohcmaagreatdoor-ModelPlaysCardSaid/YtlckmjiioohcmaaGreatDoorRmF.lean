/-
  Walk of groundlingref23.seat. Conditions: as each theorem says.
-/
import Derived.Test.YtlckmjiioohcmaaGreatDoorRmE
namespace Go.Proofs.YtlckmjiioohcmaaGreatDoor
open Go.RowKit
theorem RMem.keptNe {w0 W W':World} {V:Option Addr} {vc a ac b qc:Nat} {vs:List Value} {s:Md} {x:Nat} {t:TypeId} (h:RMem w0 W V vc a ac b qc vs s) (hg:W.grownBy W' (some x)) (ht:Tag W x t) (hx:w0.heap.size≤x) (na:x≠a) (nb:x≠b) (n3:t≠41):RMem w0 W' V vc a ac b qc vs s:=
 ⟨h.bw.grown hg h.bw.size (fun j hj=>by injection hj with hj;omega),h.ve,
  h.ss.kept hg (fun k hk e=>na (by cases e;cases hk;rfl)) (fun cs y h=>sxR_flat _ _ _ _ h),
  h.qb.kept hg (fun k hk e=>nb (by cases e;cases hk;rfl)) (fun cs y h=>vaR_flat _ _ _ _ h),h.ql,fun k l hk=>by
   obtain⟨A,c,h1,h2⟩:=h.qq k l hk
   exact⟨A,c,h1,h2.kept hg ht n3⟩,h.bv,h.bn⟩
theorem setM_self {s:Md} {k:Nat} (hk:k<s.seats.length):setM s k s.seats[k]=s:=by
 unfold setM
 rw[List.set_getElem_self]
def rsStep (s:Md) (op:MOp) (x:Sx):Sx×MRp×Int:=
 if op.kind=2 then((sxHold x op.owner (untilM s s.ve.ttl)).1,{noRp with deadline:=untilM s s.ve.ttl},(sxHold x op.owner (untilM s s.ve.ttl)).2)
 else if op.kind=4 then((sxRelease x op.owner).1,noRp,(sxRelease x op.owner).2) else if op.kind=5 then((sxBuy x op.owner).1,noRp,(sxBuy x op.owner).2)
 else if op.kind=6 then((sxTransfer x op.tk op.to).1,noRp,(sxTransfer x op.tk op.to).2) else if op.kind=7 then((sxRefund x op.tk).1,noRp,(sxRefund x op.tk).2)
 else if op.kind=8 then((sxRevoke x).1,noRp,(sxRevoke x).2) else(x,noRp,sxValid x op.tk)
def rsEnd (s:Md) (op:MOp) (k:Nat) (x:Sx) (r:MRp):Md×MRp:=
 if op.kind=5∨op.kind=6 then(setM s k x,{r with tk:=(sxTicket x (k:Int)).1}) else if op.kind=4∨op.kind=7∨op.kind=8 then(offerM (setM s k x) k,r) else(setM s k x,r)
def rsKind (op:MOp):Prop:=op.kind=2∨op.kind=4∨op.kind=5∨op.kind=6∨op.kind=7∨op.kind=8∨op.kind=9
theorem rs_op {s:Md} {op:MOp} {k:Nat} (hk:k<s.seats.length) (hkd:rsKind op):
 opM s op k=if(rsStep s op s.seats[k]).2.2=0 then rsEnd s op k (rsStep s op s.seats[k]).1 (rsStep s op s.seats[k]).2.1 else(s,{noRp with err:=(rsStep s op s.seats[k]).2.2}):=by
 have hx:seatAt s k=s.seats[k]:=by simp[seatAt,hk]
 have hs:=setM_self hk
 rw[←hx] at hs⊢
 rcases hkd with h|h|h|h|h|h|h
 all_goals simp only[opM,rsStep,rsEnd,h,holdM,releaseM,freedM,buyM,soldM,transferM,refundM,revokeM,validateM]
 all_goals simp
 ·split<;>simp_all [noRp]
 ·split<;>simp_all [noRp]
 ·split<;>simp_all [noRp]
 ·rw[hs]
  intro h0
  simp[h0,noRp]
theorem rsStep_ok {s:Md} {op:MOp} {x:Sx} (hx:SxOk x) (hc:sxCheck x=0) (ho:OpOk op) (hb:Bd (untilM s s.ve.ttl)):SxOk (rsStep s op x).1∧sxCheck (rsStep s op x).1=0:=by
 have h1:U32 op.owner:=ho.2.1
 have h2:U32 op.to:=ho.2.2.2.2.2.2.1
 unfold rsStep
 split
 ·exact⟨sxHold_ok hx h1 hb,sxCheck_hold hc⟩
 split
 ·exact⟨sxRelease_ok hx,sxCheck_release hc⟩
 split
 ·exact⟨sxBuy_ok hx h1,sxCheck_buy hc⟩
 split
 ·exact⟨sxTransfer_ok hx h2,sxCheck_transfer hc⟩
 split
 ·exact⟨sxRefund_ok hx,sxCheck_refund hc⟩
 split
 ·exact⟨sxRevoke_ok hx,sxCheck_revoke hc⟩
 ·exact⟨hx,hc⟩
theorem rsEnd_cells (F:MFrm) (s:Md) (op:MOp) (k:Nat) (x:Sx) (r:MRp):mdCells F (rsEnd s op k x r).1=mdCells F s:=by
 obtain⟨g1,g2,g3,g4⟩:=offerM_same (setM s k x) k
 unfold rsEnd
 split
 ·simp[mdCells,setM]
 split
 ·simp only[mdCells,g1,g2,g3,g4]
  simp[setM]
 ·simp[mdCells,setM]
structure SeSt (w0 W:World) (V:Option Addr) (vc a ac b qc:Nat) (os:List Value) (q p:Nat) (s0:Md) (X:World) (vs:List Value) (s:Md) (x:Sx) (r:MRp):Prop where
 h:RMem w0 X V vc a ac b qc vs s
 k:BoxN X q 31 (mdCells (frM V vc a ac b qc) s0).toArray
 o:BoxN X (q+1) 46 os.toArray
 j:BoxN X (q+1+1) 31 #[.int .i64 0,.int .i64 0,.int .i64 0,.slice none 0 0,.int .i64 0,.slice none 0 0,.slice none 0 0]
 g:BoxN X (q+1+1+1) 49 (rpCells noRp).toArray
 x:BoxN X p 81 (sxCells x).toArray
 y:BoxN X (p+1) 49 (rpCells r).toArray
 l:Only3 a a b W X
 n:q+1+1+1<p∧W.heap.size=q∧a<q∧b<q∧w0.heap.size≤q
section
variable {w0 W X Y:World} {V:Option Addr} {vc a ac b qc:Nat} {os vs vs':List Value} {q p:Nat} {s0 s s':Md} {x x':Sx} {r r':MRp}
theorem SeSt.up (h:SeSt w0 W V vc a ac b qc os q p s0 X vs s x r) (hb:Below X.heap.size X Y):SeSt w0 W V vc a ac b qc os q p s0 Y vs s x r:=
 ⟨h.h.up hb,h.k.later hb,h.o.later hb,h.j.later hb,h.g.later hb,h.x.later hb,h.y.later hb,h.l.trans (Only3.of a a b hb),h.n⟩
theorem SeSt.setX (h:SeSt w0 W V vc a ac b qc os q p s0 X vs s x r) (x':Sx):SeSt w0 W V vc a ac b qc os q p s0 (X.setRow p (sxCells x').toArray) vs s x' r:=by
 obtain⟨n1,n2,n3,n4,n5⟩:=h.n
 obtain⟨g1,g2⟩:=grownBy_setRow h.x (sxCells x').toArray
 exact⟨h.h.keptNe g1 (Tag.of_box h.x) (by omega) (by omega) (by omega) (by decide),h.k.kept g1 (by simp;omega),h.o.kept g1 (by simp;omega),h.j.kept g1 (by simp;omega),h.g.kept g1 (by simp;omega),g2,h.y.kept g1 (by simp),h.l.new g1 (by omega),h.n⟩
theorem SeSt.setY (h:SeSt w0 W V vc a ac b qc os q p s0 X vs s x r) (g1:X.grownBy Y (some (p+1))) (hy:BoxN Y (p+1) 49 (rpCells r').toArray):SeSt w0 W V vc a ac b qc os q p s0 Y vs s x r':=by
 obtain⟨n1,n2,n3,n4,n5⟩:=h.n
 exact⟨h.h.kept g1 (Tag.of_box h.y) (by omega) (by decide) (by decide) (by decide),h.k.kept g1 (by simp;omega),h.o.kept g1 (by simp;omega),h.j.kept g1 (by simp;omega),h.g.kept g1 (by simp;omega),h.x.kept g1 (by simp),hy,h.l.new g1 (by omega),h.n⟩
theorem SeSt.setK (h:SeSt w0 W V vc a ac b qc os q p s0 X vs s x r):SeSt w0 W V vc a ac b qc os q p s0 (X.setRow q (mdCells (frM V vc a ac b qc) s0).toArray) vs s x r:=by
 obtain⟨n1,n2,n3,n4,n5⟩:=h.n
 obtain⟨g1,g2⟩:=grownBy_setRow h.k (mdCells (frM V vc a ac b qc) s0).toArray
 exact⟨h.h.keptNe g1 (Tag.of_box h.k) (by omega) (by omega) (by omega) (by decide),g2,h.o.kept g1 (by simp),h.j.kept g1 (by simp;omega),h.g.kept g1 (by simp;omega),h.x.kept g1 (by simp;omega),h.y.kept g1 (by simp;omega),h.l.new g1 (by omega),h.n⟩
theorem SeSt.seat (h:SeSt w0 W V vc a ac b qc os q p s0 X vs s x r) {k:Nat} (hk:k<s.seats.length) (hx:SxOk x'):SeSt w0 W V vc a ac b qc os q p s0 (putAt X a (k*5) (sxCells x')) vs (setM s k x') x r:=by
 obtain⟨n1,n2,n3,n4,n5⟩:=h.n
 obtain⟨g1,g2⟩:=h.h.set hk hx
 exact⟨g1,h.k.kept g2 (by simp;omega),h.o.kept g2 (by simp;omega),h.j.kept g2 (by simp;omega),h.g.kept g2 (by simp;omega),h.x.kept g2 (by simp;omega),h.y.kept g2 (by simp;omega),h.l.trans (Only3.grown (g:=a) (a:=a) (b:=b) g2 (.inl rfl)),h.n⟩
theorem SeSt.only (h:SeSt w0 W V vc a ac b qc os q p s0 X vs s x r) (h2:RMem w0 Y V vc a ac b qc vs' s') (ho:Only3 a a b X Y):SeSt w0 W V vc a ac b qc os q p s0 Y vs' s' x r:=by
 obtain⟨n1,n2,n3,n4,n5⟩:=h.n
 exact⟨h2,h.k.only ho (by omega) (by omega) (by omega),h.o.only ho (by omega) (by omega) (by omega),h.j.only ho (by omega) (by omega) (by omega),h.g.only ho (by omega) (by omega) (by omega),h.x.only ho (by omega) (by omega) (by omega),h.y.only ho (by omega) (by omega) (by omega),h.l.trans ho,h.n⟩
theorem SeSt.fin (h:SeSt w0 W V vc a ac b qc os q p s0 X vs s x r) (r':MRp):∃Y,Y=(X.setRow (q+1+1) (mdCells (frM V vc a ac b qc) s).toArray).setRow (q+1+1+1) (rpCells r').toArray∧RMem w0 Y V vc a ac b qc vs s∧BoxN Y (q+1+1) 31 (mdCells (frM V vc a ac b qc) s).toArray∧BoxN Y (q+1+1+1) 49 (rpCells r').toArray∧Only3 a a b W Y:=by
 obtain⟨n1,n2,n3,n4,n5⟩:=h.n
 have hrow:=two_rows h.j h.g (by omega) (mdCells (frM V vc a ac b qc) s).toArray (rpCells r').toArray
 exact⟨_,rfl,(h.h.kept hrow.2.1 (Tag.of_box h.j) (by omega) (by decide) (by decide) (by decide)).kept hrow.2.2.1 (Tag.of_box hrow.1) (by omega) (by decide) (by decide) (by decide),hrow.2.2.2.1,hrow.2.2.2.2,(h.l.new hrow.2.1 (by omega)).new hrow.2.2.1 (by omega)⟩
end
set_option maxHeartbeats 64000000 in
set_option maxRecDepth 100000 in
theorem rSeat_any {w0 W:World} {V:Option Addr} {vc a ac b qc:Nat} {vs:List Value} {s:Md} {op:MOp} (h:RMem w0 W V vc a ac b qc vs s) (hok:MdOk s) {k:Nat} (hk:k<s.seats.length) (ho:OpOk op) (ht:targetM op=((k:Int),-1,0)) (hkd:rsKind op):
 Calls Tryz.prog 41 #[mdV (frM V vc a ac b qc) s,.agg (opCells op).toArray] W (ROp w0 W V vc a ac b qc (opM s op k)):=by
 obtain⟨os,hos⟩:∃os:List Value,os=opCells op:=⟨_,rfl⟩
 have C1:=Lib.hid (fun X=>show Calls Tryz.prog 68 #[.agg os.toArray] X fun e w'=>e=.returned (.tuple #[.int .i64 (k:Int),.int .i64 (-1),.int .i64 0])∧Below X.heap.size X w' by
  have:=rTarget_any op X ho
  rw[ht] at this
  rw[hos]
  exact this)
 have SO:=Lib.hid (show(Tryz.prog.info? 46).map (·.size)=some os.length by rw[hos];kernel_rfl)
 obtain⟨d0,d1,d2,d3,d4,hfs,hxo⟩:=h.seat hk
 have hx:seatAt s k=s.seats[k]:=by simp[seatAt,hk]
 have hlen:=hok.len
 have HXO:=Lib.hid hxo
 have HOK:=Lib.hid hok
 have H:=Lib.hid h
 have hwa:=h.aB
 have hwb:=h.bB
 have hw0:=h.bw.size
 have CU:=Lib.hid (fun X=>show Calls Tryz.prog 37 #[.agg (mdCells (frM V vc a ac b qc) s).toArray,.int .i64 s.ve.ttl] X fun e w'=>e=.returned (.int .i64 (untilM s s.ve.ttl))∧Below X.heap.size X w' from rUntil_any (frM V vc a ac b qc) s s.ve.ttl X h.bn h.bv.2.1)
 have hM:=Lib.hid (rs_op hk hkd)
 have HRX:=Lib.hid (rsStep_ok (op:=op) (s:=s) hxo (by rw[←hx];exact hok.seatAt k) ho (addT_bd _ _ h.bn h.bv.2.1))
 have HO2:=Lib.hid hkd
 generalize opM s op k=MM at hM⊢
 generalize s.seats[k]=x at*
 obtain⟨R,hR⟩:∃R,rsStep s op x=R:=⟨_,rfl⟩
 rw[hR] at HRX hM
 have HR:=Lib.hid hR
 have HOS:=Lib.hid hos
 have HD:=Lib.hid (And.intro d0 (And.intro d1 (And.intro d2 (And.intro d3 d4))))
 have SS:=md_s (ms:=mdCells (frM V vc a ac b qc) s) rfl
 have SX:=Lib.hid (show∀x:Sx,(Tryz.prog.info? 81).map (·.size)=some (sxCells x).toArray.size from fun x=>by kernel_rfl)
 have OX:=Lib.hid (show∀x:Sx,(sxCells x).toArray.all (·.oneCell')=true from fun x=>by simp[sxCells,Value.oneCell'])
 clear d0 d1 d2 d3 d4 hfs hxo hx hok h ho ht hkd hR hos
 rw[←HOS.out,show mdV (frM V vc a ac b qc) s=.agg (mdCells (frM V vc a ac b qc) s).toArray from rfl]
 have HV:=Lib.hid (show mdV (frM V vc a ac b qc) s=.agg (mdCells (frM V vc a ac b qc) s).toArray from rfl)
 go_enter Tryz.func41,Tryz.ntmps41
 go_upto_region 1 with fail
 obtain⟨q,hqq⟩:∃q,W.heap.size=q:=⟨_,rfl⟩
 rw[hqq]
 refine at_world (fun X=>Below W.heap.size W X∧BoxN X q 31 (mdCells (frM V vc a ac b qc) s).toArray∧BoxN X (q+1) 46 os.toArray∧BoxN X (q+1+1) 31 #[.int .i64 0,.int .i64 0,.int .i64 0,.slice none 0 0,.int .i64 0,.slice none 0 0,.slice none 0 0]∧BoxN X (q+1+1+1) 49 (rpCells noRp).toArray) (four_boxes hqq _ _ _ _ _ _ _ _) fun w1 hw1=> ?_
 have B1:=Lib.hid hw1
 clear hw1
 go_wp2_with (refine wpList_load_mid rfl 46 (.tmp 3) rfl (q+1) 0 rfl os _ B1.out.2.2.1.range2 Tryz.underlying46 rfl SO.out ?_)
 refine(C1.out _).mono ?_
 rintro e w2 ⟨rfl,hb2⟩
 have B2:=Lib.hid (show Below W.heap.size W w2 from B1.out.1.trans (hb2.mono B1.out.1.size))
 have K2:=Lib.hid (B1.out.2.1.later hb2)
 have P2:=Lib.hid (B1.out.2.2.1.later hb2)
 have J2:=Lib.hid (B1.out.2.2.2.1.later hb2)
 have G2:=Lib.hid (B1.out.2.2.2.2.later hb2)
 clear hb2 B1 C1 SO
 have d0:=cell_later B2.out HD.out.1
 have d1:=cell_later B2.out HD.out.2.1
 have d2:=cell_later B2.out HD.out.2.2.1
 have d3:=cell_later B2.out HD.out.2.2.2.1
 have d4:=cell_later B2.out HD.out.2.2.2.2
 have za:=(H.out.up B2.out).aB.2
 have c5:=K2.out.cell 5 (.slice (some ⟨a,0,none⟩) s.seats.length ac) rfl
 have zq:=K2.out.lt
 have hk0:(0:Int)≤(k:Int):=by omega
 have hk1:(k:Int)<(s.seats.length:Int):=by omega
 have hk9:(k:Int)≤4096:=by omega
 go_upto_region 5 with fail
 clear d0 d1 d2 d3 d4 za c5 zq HD
 obtain⟨p,hpp⟩:∃p,w2.heap.size=p:=⟨_,rfl⟩
 rw[hpp]
 have hqp:q+1+1+1<p:=by have:=G2.out.lt;omega
 refine at_world (fun X=>SeSt w0 W V vc a ac b qc os q p s X vs s x noRp) ⟨(H.out.up B2.out).up ((ba _ _).trans ((ba _ _).mono (by simp))),(K2.out.alloc _).alloc _,(P2.out.alloc _).alloc _,(J2.out.alloc _).alloc _,(G2.out.alloc _).alloc _,(hpp▸BoxN.new w2 _ _).alloc _,by have:=BoxN.new (w2.alloc (.cells (sxCells x).toArray 81)) 49 (rpCells noRp).toArray;rw[World.size_alloc,hpp] at this;exact this,Only3.of a a b (B2.out.trans (((ba _ _).trans ((ba _ _).mono (by simp))).mono B2.out.size)),by omega⟩ fun w3 h3=> ?_
 have S3:=Lib.hid h3
 clear h3 K2 P2 J2 G2 B2 hpp H
 have p0:=S3.out.o.cell 0 (.int .i64 op.kind) (by rw[HOS.out];rfl)
 have zp:=S3.out.o.lt
 go_upto_block 0 with fail
 clear p0 zp
 go_cut [10] from 25 to 90 (fun e X=>e=.int .i64 R.2.2∧SeSt w0 W V vc a ac b qc os q p s X vs s R.1 R.2.1)
 case first=>
  have SL:=Lib.hid (show(Tryz.prog.info? 81).map (·.size)=some (sxCells x).length by kernel_rfl)
  have p0:=S3.out.o.cell 0 (.int .i64 op.kind) (by rw[HOS.out];rfl)
  have zp:=S3.out.o.lt
  rcases HO2.out with hkk|hkk|hkk|hkk|hkk|hkk|hkk
  ·as_aux_lemma=>
   have tk2:(op.kind==2)=true:=by simp[hkk]
   have hR:=HR.out
   simp[rsStep,hkk] at hR
   have C:=Lib.hid (fun X=>show Calls Tryz.prog 74 #[.agg (sxCells x).toArray,.int .u32 op.owner,.int .i64 (untilM s s.ve.ttl)] X fun e w'=>e=.returned (.tuple #[.agg (sxCells R.1).toArray,.int .i64 R.2.2])∧Below X.heap.size X w' by rw[←hR];exact r16Hold_any x op.owner (untilM s s.ve.ttl) X)
   have hr:R.2.1={noRp with deadline:=untilM s s.ve.ttl}:=by rw[←hR]
   have HRR:=Lib.hid hr
   clear hR hr hkk
   have c1:=S3.out.k.cell 1 (.int .i64 s.ve.ttl) rfl
   have zq:=S3.out.k.lt
   go_wp2_with (refine wpList_load_mid rfl 31 (.tmp 2) rfl q 0 rfl (mdCells (frM V vc a ac b qc) s) _ S3.out.k.range2 Tryz.underlying31 rfl SS.out ?_)
   refine(CU.out _).mono ?_
   rintro e w4 ⟨rfl,hb⟩
   have S4:=Lib.hid (S3.out.up hb)
   clear p0 zp c1 zq hb S3
   have y3:=S4.out.y.cell 3 (.int .i64 0) rfl
   have fy:=S4.out.y.frozen 3
   have zy:=S4.out.y.lt
   go_upto_region 9 with fail
   refine at_world (fun X=>SeSt w0 W V vc a ac b qc os q p s X vs s x R.2.1) (S4.out.setY (grownBy_set w4 (p+1) 3 _) (by rw[HRR.out];exact S4.out.y.set 3 (.int .i64 (untilM s s.ve.ttl)))) fun w5 h5=> ?_
   have S5:=Lib.hid h5
   clear h5 y3 fy zy S4
   have y3:=S5.out.y.cell 3 (.int .i64 (untilM s s.ve.ttl)) (by rw[HRR.out];rfl)
   have zy:=S5.out.y.lt
   have p1:=S5.out.o.cell 1 (.int .u32 op.owner) (by rw[HOS.out];rfl)
   have zp:=S5.out.o.lt
   go_wp2_with (refine wpList_load_mid rfl 81 (.tmp 9) rfl p 0 rfl (sxCells x) _ S5.out.x.range2 Tryz.underlying81 rfl SL.out ?_)
   refine(C.out _).mono ?_
   rintro e w9 ⟨rfl,hb⟩
   have S9:=Lib.hid (S5.out.up hb)
   clear hb S5 zp p1 y3 zy
   go_wp2_with (refine wpList_store_row rfl 81 (.tmp 9) (.tmp 44) rfl p (sxCells R.1).toArray rfl rfl 81 _ S9.out.x (SX.out _) rfl (OX.out _) ?_)
   go_meet
   exact⟨rfl,S9.out.setX R.1⟩
  ·as_aux_lemma=>
   have tk2:(op.kind==2)=false:=by simp[hkk]
   have tk4:(op.kind==4)=true:=by simp[hkk]
   have hR:=HR.out
   simp[rsStep,hkk] at hR
   have C:=Lib.hid (fun X=>show Calls Tryz.prog 75 #[.agg (sxCells x).toArray,.int .u32 op.owner] X fun e w'=>e=.returned (.tuple #[.agg (sxCells R.1).toArray,.int .i64 R.2.2])∧Below X.heap.size X w' by rw[←hR];exact r16Release_any x op.owner X)
   have hr:R.2.1=noRp:=by rw[←hR]
   have HRR:=Lib.hid hr
   clear hR hr hkk
   replace S3:=Lib.hid (show SeSt w0 W V vc a ac b qc os q p s w3 vs s x R.2.1 by rw[HRR.out];exact S3.out)
   have p1:=S3.out.o.cell 1 (.int .u32 op.owner) (by rw[HOS.out];rfl)
   go_wp2_with (refine wpList_load_mid rfl 81 (.tmp 9) rfl p 0 rfl (sxCells x) _ S3.out.x.range2 Tryz.underlying81 rfl SL.out ?_)
   refine(C.out _).mono ?_
   rintro e w9 ⟨rfl,hb⟩
   have S9:=Lib.hid (S3.out.up hb)
   clear hb S3 zp p0 p1
   go_wp2_with (refine wpList_store_row rfl 81 (.tmp 9) (.tmp 53) rfl p (sxCells R.1).toArray rfl rfl 81 _ S9.out.x (SX.out _) rfl (OX.out _) ?_)
   go_meet
   exact⟨rfl,S9.out.setX R.1⟩
  ·as_aux_lemma=>
   have tk2:(op.kind==2)=false:=by simp[hkk]
   have tk4:(op.kind==4)=false:=by simp[hkk]
   have tk5:(op.kind==5)=true:=by simp[hkk]
   have hR:=HR.out
   simp[rsStep,hkk] at hR
   have C:=Lib.hid (fun X=>show Calls Tryz.prog 76 #[.agg (sxCells x).toArray,.int .u32 op.owner] X fun e w'=>e=.returned (.tuple #[.agg (sxCells R.1).toArray,.int .i64 R.2.2])∧Below X.heap.size X w' by rw[←hR];exact r16Buy_any x op.owner X HXO.out)
   have hr:R.2.1=noRp:=by rw[←hR]
   have HRR:=Lib.hid hr
   clear hR hr hkk
   replace S3:=Lib.hid (show SeSt w0 W V vc a ac b qc os q p s w3 vs s x R.2.1 by rw[HRR.out];exact S3.out)
   have p1:=S3.out.o.cell 1 (.int .u32 op.owner) (by rw[HOS.out];rfl)
   go_wp2_with (refine wpList_load_mid rfl 81 (.tmp 9) rfl p 0 rfl (sxCells x) _ S3.out.x.range2 Tryz.underlying81 rfl SL.out ?_)
   refine(C.out _).mono ?_
   rintro e w9 ⟨rfl,hb⟩
   have S9:=Lib.hid (S3.out.up hb)
   clear hb S3 zp p0 p1
   go_wp2_with (refine wpList_store_row rfl 81 (.tmp 9) (.tmp 62) rfl p (sxCells R.1).toArray rfl rfl 81 _ S9.out.x (SX.out _) rfl (OX.out _) ?_)
   go_meet
   exact⟨rfl,S9.out.setX R.1⟩
  ·as_aux_lemma=>
   have tk2:(op.kind==2)=false:=by simp[hkk]
   have tk4:(op.kind==4)=false:=by simp[hkk]
   have tk5:(op.kind==5)=false:=by simp[hkk]
   have tk6:(op.kind==6)=true:=by simp[hkk]
   have hR:=HR.out
   simp[rsStep,hkk] at hR
   have C:=Lib.hid (fun X=>show Calls Tryz.prog 77 #[.agg (sxCells x).toArray,tkV op.tk,.int .u32 op.to] X fun e w'=>e=.returned (.tuple #[.agg (sxCells R.1).toArray,.int .i64 R.2.2])∧Below X.heap.size X w' by rw[←hR];exact r16Transfer_any x op.tk op.to X HXO.out)
   unfold tkV at C
   have hr:R.2.1=noRp:=by rw[←hR]
   have HRR:=Lib.hid hr
   clear hR hr hkk
   replace S3:=Lib.hid (show SeSt w0 W V vc a ac b qc os q p s w3 vs s x R.2.1 by rw[HRR.out];exact S3.out)
   have p6:=S3.out.o.cell 6 (.int .u32 op.to) (by rw[HOS.out];rfl)
   have p7:=S3.out.o.cell 7 (.int .u32 op.tk.seat) (by rw[HOS.out];rfl)
   have p8:=S3.out.o.cell 8 (.int .u32 op.tk.owner) (by rw[HOS.out];rfl)
   have p9:=S3.out.o.cell 9 (.int .u64 op.tk.serial) (by rw[HOS.out];rfl)
   have p10:=S3.out.o.cell 10 (.int .u64 op.tk.epoch) (by rw[HOS.out];rfl)
   go_wp2_with (refine wpList_load_mid rfl 81 (.tmp 9) rfl p 0 rfl (sxCells x) _ S3.out.x.range2 Tryz.underlying81 rfl SL.out ?_)
   refine(C.out _).mono ?_
   rintro e w9 ⟨rfl,hb⟩
   have S9:=Lib.hid (S3.out.up hb)
   clear hb S3 zp p0 p6 p7 p8 p9 p10
   go_wp2_with (refine wpList_store_row rfl 81 (.tmp 9) (.tmp 73) rfl p (sxCells R.1).toArray rfl rfl 81 _ S9.out.x (SX.out _) rfl (OX.out _) ?_)
   go_meet
   exact⟨rfl,S9.out.setX R.1⟩
  ·as_aux_lemma=>
   have tk2:(op.kind==2)=false:=by simp[hkk]
   have tk4:(op.kind==4)=false:=by simp[hkk]
   have tk5:(op.kind==5)=false:=by simp[hkk]
   have tk6:(op.kind==6)=false:=by simp[hkk]
   have tk7:(op.kind==7)=true:=by simp[hkk]
   have hR:=HR.out
   simp[rsStep,hkk] at hR
   have C:=Lib.hid (fun X=>show Calls Tryz.prog 78 #[.agg (sxCells x).toArray,tkV op.tk] X fun e w'=>e=.returned (.tuple #[.agg (sxCells R.1).toArray,.int .i64 R.2.2])∧Below X.heap.size X w' by rw[←hR];exact r16Refund_any x op.tk X)
   unfold tkV at C
   have hr:R.2.1=noRp:=by rw[←hR]
   have HRR:=Lib.hid hr
   clear hR hr hkk
   replace S3:=Lib.hid (show SeSt w0 W V vc a ac b qc os q p s w3 vs s x R.2.1 by rw[HRR.out];exact S3.out)
   have p7:=S3.out.o.cell 7 (.int .u32 op.tk.seat) (by rw[HOS.out];rfl)
   have p8:=S3.out.o.cell 8 (.int .u32 op.tk.owner) (by rw[HOS.out];rfl)
   have p9:=S3.out.o.cell 9 (.int .u64 op.tk.serial) (by rw[HOS.out];rfl)
   have p10:=S3.out.o.cell 10 (.int .u64 op.tk.epoch) (by rw[HOS.out];rfl)
   go_wp2_with (refine wpList_load_mid rfl 81 (.tmp 9) rfl p 0 rfl (sxCells x) _ S3.out.x.range2 Tryz.underlying81 rfl SL.out ?_)
   refine(C.out _).mono ?_
   rintro e w9 ⟨rfl,hb⟩
   have S9:=Lib.hid (S3.out.up hb)
   clear hb S3 zp p0 p7 p8 p9 p10
   go_wp2_with (refine wpList_store_row rfl 81 (.tmp 9) (.tmp 82) rfl p (sxCells R.1).toArray rfl rfl 81 _ S9.out.x (SX.out _) rfl (OX.out _) ?_)
   go_meet
   exact⟨rfl,S9.out.setX R.1⟩
  ·as_aux_lemma=>
   have tk2:(op.kind==2)=false:=by simp[hkk]
   have tk4:(op.kind==4)=false:=by simp[hkk]
   have tk5:(op.kind==5)=false:=by simp[hkk]
   have tk6:(op.kind==6)=false:=by simp[hkk]
   have tk7:(op.kind==7)=false:=by simp[hkk]
   have tk8:(op.kind==8)=true:=by simp[hkk]
   have hR:=HR.out
   simp[rsStep,hkk] at hR
   have C:=Lib.hid (fun X=>show Calls Tryz.prog 79 #[.agg (sxCells x).toArray] X fun e w'=>e=.returned (.tuple #[.agg (sxCells R.1).toArray,.int .i64 R.2.2])∧Below X.heap.size X w' by rw[←hR];exact r16Revoke_any x X HXO.out)
   have hr:R.2.1=noRp:=by rw[←hR]
   have HRR:=Lib.hid hr
   clear hR hr hkk
   replace S3:=Lib.hid (show SeSt w0 W V vc a ac b qc os q p s w3 vs s x R.2.1 by rw[HRR.out];exact S3.out)
   go_wp2_with (refine wpList_load_mid rfl 81 (.tmp 9) rfl p 0 rfl (sxCells x) _ S3.out.x.range2 Tryz.underlying81 rfl SL.out ?_)
   refine(C.out _).mono ?_
   rintro e w9 ⟨rfl,hb⟩
   have S9:=Lib.hid (S3.out.up hb)
   clear hb S3 zp p0
   go_wp2_with (refine wpList_store_row rfl 81 (.tmp 9) (.tmp 89) rfl p (sxCells R.1).toArray rfl rfl 81 _ S9.out.x (SX.out _) rfl (OX.out _) ?_)
   go_meet
   exact⟨rfl,S9.out.setX R.1⟩
  ·as_aux_lemma=>
   have tk2:(op.kind==2)=false:=by simp[hkk]
   have tk4:(op.kind==4)=false:=by simp[hkk]
   have tk5:(op.kind==5)=false:=by simp[hkk]
   have tk6:(op.kind==6)=false:=by simp[hkk]
   have tk7:(op.kind==7)=false:=by simp[hkk]
   have tk8:(op.kind==8)=false:=by simp[hkk]
   have hR:=HR.out
   simp[rsStep,hkk] at hR
   have C:=Lib.hid (fun X=>show Calls Tryz.prog 80 #[.agg (sxCells x).toArray,tkV op.tk] X fun e w'=>e=.returned (.int .i64 R.2.2)∧Below X.heap.size X w' by rw[←hR];exact r16Valid_any x op.tk X)
   unfold tkV at C
   have hr:R.2.1=noRp:=by rw[←hR]
   have hr1:R.1=x:=by rw[←hR]
   have HRR:=Lib.hid hr
   clear hR hr hkk
   replace S3:=Lib.hid (show SeSt w0 W V vc a ac b qc os q p s w3 vs s x R.2.1 by rw[HRR.out];exact S3.out)
   have p7:=S3.out.o.cell 7 (.int .u32 op.tk.seat) (by rw[HOS.out];rfl)
   have p8:=S3.out.o.cell 8 (.int .u32 op.tk.owner) (by rw[HOS.out];rfl)
   have p9:=S3.out.o.cell 9 (.int .u64 op.tk.serial) (by rw[HOS.out];rfl)
   have p10:=S3.out.o.cell 10 (.int .u64 op.tk.epoch) (by rw[HOS.out];rfl)
   go_wp2_with (refine wpList_load_mid rfl 81 (.tmp 9) rfl p 0 rfl (sxCells x) _ S3.out.x.range2 Tryz.underlying81 rfl SL.out ?_)
   refine(C.out _).mono ?_
   rintro e w9 ⟨rfl,hb⟩
   have S9:=Lib.hid (S3.out.up hb)
   clear hb S3 zp p0 p7 p8 p9 p10
   go_wp2_with fail
   go_meet
   exact⟨rfl,by rw[hr1];exact S9.out⟩
 case rest=>
 obtain⟨rfl,hS⟩:=hcut
 rename World=>w6
 have S6:=Lib.hid hS
 have hqn:=S6.out.n
 clear hS S3 CU HR
 by_cases he:R.2.2=0
 case neg=>as_aux_lemma=>
  have t1:(R.2.2 !=0)=true:=by simpa using he
  have hM2:=Lib.hid (show MM=(s,{noRp with err:=R.2.2}) by rw[hM.out,if_neg he])
  clear hM he HOK
  have S9:=rp_S (ms:=rpCells {noRp with err:=R.2.2}) rfl
  have O9:=rp_o (ms:=rpCells {noRp with err:=R.2.2}) rfl
  have SA:=md_S (ms:=mdCells (frM V vc a ac b qc) s) rfl
  have O1:=md_o (ms:=mdCells (frM V vc a ac b qc) s) rfl
  go_wp2_with (first|refine wpList_load_mid rfl 31 (.tmp 2) rfl q 0 rfl (mdCells (frM V vc a ac b qc) s) _ S6.out.k.range2 Tryz.underlying31 rfl SS.out ?_|refine wpList_store_row rfl 31 (.tmp 4) (.tmp 93) rfl (q+1+1) (mdCells (frM V vc a ac b qc) s).toArray rfl rfl 31 _ S6.out.j SA.out rfl O1.out ?_|refine wpList_store_row rfl 49 (.tmp 5) (.tmp 95) rfl (q+1+1+1) (rpCells {noRp with err:=R.2.2}).toArray rfl rfl 49 _ (two_rows S6.out.j S6.out.g (by omega) (mdCells (frM V vc a ac b qc) s).toArray #[]).1 S9.out rfl O9.out ?_)
  obtain⟨Y,hY,hR,k3,k4,hO⟩:=S6.out.fin {noRp with err:=R.2.2}
  rw[←hY]
  clear hY S6
  have gg:=(show BoxN Y (q+1+1) 31 #[.int .i64 s.ve.shards,.int .i64 s.ve.ttl,.int .i64 s.ve.session,.slice V s.ve.secs.length vc,.int .i64 s.now,.slice (some ⟨a,0,none⟩) s.seats.length ac,.slice (some ⟨b,0,none⟩) s.qs.length qc] from k3).x7
  have uu:=k4.x9
  exact bodyPost_ret (v:=.tuple #[mdV (frM V vc a ac b qc) s,RpV {noRp with err:=R.2.2}]) (by simp[results,Tryz.results41,go_sem,mdV,RpV,frM,gg,uu]) rfl (show ROp w0 W V vc a ac b qc MM _ _ from⟨vs,by rw[hM2.out],by rw[hM2.out];exact hR,hO⟩)
 replace hM:=Lib.hid (show MM=rsEnd s op k R.1 R.2.1 by rw[hM.out,if_pos he])
 have t1:(R.2.2 !=0)=false:=by simpa using he
 obtain⟨e0,-,e1,-,e2,-,e3,-,e4,-,ze⟩:=(show BoxN w6 p 81 #[.int .i64 R.1.state,.int .u32 R.1.owner,.int .i64 R.1.till,.int .u64 R.1.serial,.int .u64 R.1.epoch] from S6.out.x).x5
 obtain⟨d0,d1,d2,d3,d4,hf,_⟩:=S6.out.h.seat hk
 have f0:=hf (k*5)
 have f1:=hf (k*5+1)
 have f2:=hf (k*5+2)
 have f3:=hf (k*5+3)
 have f4:=hf (k*5+4)
 have za:=S6.out.h.aB.2
 have c5:=S6.out.k.cell 5 (.slice (some ⟨a,0,none⟩) s.seats.length ac) rfl
 have zq:=S6.out.k.lt
 have h8:=S6.out.seat hk HRX.out.1
 simp only[putAt,sxCells] at h8
 have H8:=Lib.hid h8
 clear hf h8 he
 go_upto_region 23 with fail
 refine at_world (fun X=>SeSt w0 W V vc a ac b qc os q p s X vs (setM s k R.1) R.1 R.2.1) H8.out fun w8 h9=> ?_
 have S8:=Lib.hid h9
 clear h9 H8 d0 d1 d2 d3 d4 f0 f1 f2 f3 f4 za c5 zq e0 e1 e2 e3 e4 ze S6 t1
 obtain⟨N,hN⟩:∃N,rsEnd s op k R.1 R.2.1=N:=⟨_,rfl⟩
 have HC:=Lib.hid (rsEnd_cells (frM V vc a ac b qc) s op k R.1 R.2.1)
 rw[hN] at hM HC
 have HN:=Lib.hid hN
 have p0:=S8.out.o.cell 0 (.int .i64 op.kind) (by rw[HOS.out];rfl)
 have zp:=S8.out.o.lt
 clear hN
 go_upto_block 1 with fail
 clear p0 zp
 go_cut [] from 103 to 120 (fun X=> ∃vs',SeSt w0 W V vc a ac b qc os q p s X vs' N.1 R.1 N.2)
 case first=>
  have p0:=S8.out.o.cell 0 (.int .i64 op.kind) (by rw[HOS.out];rfl)
  have zp:=S8.out.o.lt
  rcases HO2.out with hkk|hkk|hkk|hkk|hkk|hkk|hkk
  ·as_aux_lemma=>
   have tk4:(op.kind==4)=false:=by simp[hkk]
   have tk5:(op.kind==5)=false:=by simp[hkk]
   have tk6:(op.kind==6)=false:=by simp[hkk]
   have tk7:(op.kind==7)=false:=by simp[hkk]
   have tk8:(op.kind==8)=false:=by simp[hkk]
   have hN:=HN.out
   have hn:N=(setM s k R.1,R.2.1):=by rw[←hN];simp[rsEnd,hkk]
   clear hN hkk
   go_wp2_with fail
   go_meet
   exact⟨vs,by rw[hn];exact S8.out⟩
  ·as_aux_lemma=>
   have tk4:(op.kind==4)=true:=by simp[hkk]
   have tk5:(op.kind==5)=false:=by simp[hkk]
   have tk6:(op.kind==6)=false:=by simp[hkk]
   have tk7:(op.kind==7)=false:=by simp[hkk]
   have tk8:(op.kind==8)=false:=by simp[hkk]
   have hN:=HN.out
   have hn:N=(offerM (setM s k R.1) k,R.2.1):=by rw[←hN];simp[rsEnd,hkk]
   have HNN:=Lib.hid hn
   have HOK2:=HOK.out.set k HRX.out.2
   have hlaid:=HOK2.laid k (by simpa[setM] using hk)
   have hv0:mdV (frM V vc a ac b qc) (setM s k R.1)=.agg (mdCells (frM V vc a ac b qc) s).toArray:=by simp[mdV,mdCells,frM,setM]
   have hv1:mdV (frM V vc a ac b qc) (offerM (setM s k R.1) k)=.agg (mdCells (frM V vc a ac b qc) s).toArray:=by have h1:=HC.out;rw[hn] at h1;rw[←h1];rfl
   have C:=rOffered_any S8.out.h (i:=k) (by simpa[setM] using hk) hlaid.1 hlaid.2 (fun l hl=>by have:=HOK2.qlen l hl;omega)
   unfold ROff at C
   rw[hv0,hv1] at C
   have C4:=Lib.hid C
   have SA:=md_S (ms:=mdCells (frM V vc a ac b qc) s) rfl
   have O1:=md_o (ms:=mdCells (frM V vc a ac b qc) s) rfl
   clear hN hn hkk HOK2 hlaid hv0 hv1 C
   go_wp2_with (refine wpList_load_mid rfl 31 (.tmp 2) rfl q 0 rfl (mdCells (frM V vc a ac b qc) s) _ S8.out.k.range2 Tryz.underlying31 rfl SS.out ?_)
   refine C4.out.mono ?_
   rintro e w9 ⟨vs9,rfl,h9,ho9⟩
   have S9:=Lib.hid (S8.out.only h9 ho9)
   clear h9 ho9 S8 p0 zp C4
   go_wp2_with (refine wpList_store_row rfl 31 (.tmp 2) (.tmp 120) rfl q (mdCells (frM V vc a ac b qc) s).toArray rfl rfl 31 _ S9.out.k SA.out rfl O1.out ?_)
   go_meet
   exact⟨vs9,by rw[HNN.out];exact S9.out.setK⟩
  ·as_aux_lemma=>
   have tk4:(op.kind==4)=false:=by simp[hkk]
   have tk5:(op.kind==5)=true:=by simp[hkk]
   have tk6:(op.kind==6)=false:=by simp[hkk]
   have tk7:(op.kind==7)=false:=by simp[hkk]
   have tk8:(op.kind==8)=false:=by simp[hkk]
   have hN:=HN.out
   have hn:N=(setM s k R.1,{R.2.1 with tk:=(sxTicket R.1 (k:Int)).1}):=by rw[←hN];simp[rsEnd,hkk]
   have HNN:=Lib.hid hn
   have C:=Lib.hid (fun X=>r16Ticket_any R.1 (k:Int) X)
   obtain⟨T,hT⟩:∃T,(sxTicket R.1 (k:Int)).1=T:=⟨_,rfl⟩
   rw[hT] at HNN
   unfold tkV at C
   rw[hT,show sxV R.1=.agg (sxCells R.1).toArray from rfl] at C
   have SL:=Lib.hid (show(Tryz.prog.info? 81).map (·.size)=some (sxCells R.1).length by kernel_rfl)
   have hW:IntKind.u32.wrap (k:Int)=(k:Int):=by simp[IntKind.wrap,IntKind.signed,IntKind.bits];omega
   clear hN hn hkk hT
   go_wp2_with (refine wpList_load_mid rfl 81 (.tmp 9) rfl p 0 rfl (sxCells R.1) _ S8.out.x.range2 Tryz.underlying81 rfl SL.out ?_)
   refine(C.out _).mono ?_
   rintro e w9 ⟨rfl,hb⟩
   have S9:=Lib.hid (S8.out.up hb)
   clear hb S8 p0 zp C
   have y4:=S9.out.y.cell 4 (.int .u32 R.2.1.tk.seat) rfl
   have fy4:=S9.out.y.frozen 4
   have y5:=S9.out.y.cell 5 (.int .u32 R.2.1.tk.owner) rfl
   have fy5:=S9.out.y.frozen 5
   have y6:=S9.out.y.cell 6 (.int .u64 R.2.1.tk.serial) rfl
   have fy6:=S9.out.y.frozen 6
   have y7:=S9.out.y.cell 7 (.int .u64 R.2.1.tk.epoch) rfl
   have fy7:=S9.out.y.frozen 7
   have zy:=S9.out.y.lt
   go_wp2_with fail
   go_meet
   exact⟨vs,by rw[HNN.out];exact S9.out.setY (grownBy_trans (grownBy_trans (grownBy_trans (grownBy_set w9 (p+1) 4 _) (grownBy_set _ (p+1) 5 _)) (grownBy_set _ (p+1) 6 _)) (grownBy_set _ (p+1) 7 _)) ((((S9.out.y.set 4 (.int .u32 T.seat)).set 5 (.int .u32 T.owner)).set 6 (.int .u64 T.serial)).set 7 (.int .u64 T.epoch))⟩
  ·as_aux_lemma=>
   have tk4:(op.kind==4)=false:=by simp[hkk]
   have tk5:(op.kind==5)=false:=by simp[hkk]
   have tk6:(op.kind==6)=true:=by simp[hkk]
   have tk7:(op.kind==7)=false:=by simp[hkk]
   have tk8:(op.kind==8)=false:=by simp[hkk]
   have hN:=HN.out
   have hn:N=(setM s k R.1,{R.2.1 with tk:=(sxTicket R.1 (k:Int)).1}):=by rw[←hN];simp[rsEnd,hkk]
   have HNN:=Lib.hid hn
   have C:=Lib.hid (fun X=>r16Ticket_any R.1 (k:Int) X)
   obtain⟨T,hT⟩:∃T,(sxTicket R.1 (k:Int)).1=T:=⟨_,rfl⟩
   rw[hT] at HNN
   unfold tkV at C
   rw[hT,show sxV R.1=.agg (sxCells R.1).toArray from rfl] at C
   have SL:=Lib.hid (show(Tryz.prog.info? 81).map (·.size)=some (sxCells R.1).length by kernel_rfl)
   have hW:IntKind.u32.wrap (k:Int)=(k:Int):=by simp[IntKind.wrap,IntKind.signed,IntKind.bits];omega
   clear hN hn hkk hT
   go_wp2_with (refine wpList_load_mid rfl 81 (.tmp 9) rfl p 0 rfl (sxCells R.1) _ S8.out.x.range2 Tryz.underlying81 rfl SL.out ?_)
   refine(C.out _).mono ?_
   rintro e w9 ⟨rfl,hb⟩
   have S9:=Lib.hid (S8.out.up hb)
   clear hb S8 p0 zp C
   have y4:=S9.out.y.cell 4 (.int .u32 R.2.1.tk.seat) rfl
   have fy4:=S9.out.y.frozen 4
   have y5:=S9.out.y.cell 5 (.int .u32 R.2.1.tk.owner) rfl
   have fy5:=S9.out.y.frozen 5
   have y6:=S9.out.y.cell 6 (.int .u64 R.2.1.tk.serial) rfl
   have fy6:=S9.out.y.frozen 6
   have y7:=S9.out.y.cell 7 (.int .u64 R.2.1.tk.epoch) rfl
   have fy7:=S9.out.y.frozen 7
   have zy:=S9.out.y.lt
   go_wp2_with fail
   go_meet
   exact⟨vs,by rw[HNN.out];exact S9.out.setY (grownBy_trans (grownBy_trans (grownBy_trans (grownBy_set w9 (p+1) 4 _) (grownBy_set _ (p+1) 5 _)) (grownBy_set _ (p+1) 6 _)) (grownBy_set _ (p+1) 7 _)) ((((S9.out.y.set 4 (.int .u32 T.seat)).set 5 (.int .u32 T.owner)).set 6 (.int .u64 T.serial)).set 7 (.int .u64 T.epoch))⟩
  ·as_aux_lemma=>
   have tk4:(op.kind==4)=false:=by simp[hkk]
   have tk5:(op.kind==5)=false:=by simp[hkk]
   have tk6:(op.kind==6)=false:=by simp[hkk]
   have tk7:(op.kind==7)=true:=by simp[hkk]
   have tk8:(op.kind==8)=false:=by simp[hkk]
   have hN:=HN.out
   have hn:N=(offerM (setM s k R.1) k,R.2.1):=by rw[←hN];simp[rsEnd,hkk]
   have HNN:=Lib.hid hn
   have HOK2:=HOK.out.set k HRX.out.2
   have hlaid:=HOK2.laid k (by simpa[setM] using hk)
   have hv0:mdV (frM V vc a ac b qc) (setM s k R.1)=.agg (mdCells (frM V vc a ac b qc) s).toArray:=by simp[mdV,mdCells,frM,setM]
   have hv1:mdV (frM V vc a ac b qc) (offerM (setM s k R.1) k)=.agg (mdCells (frM V vc a ac b qc) s).toArray:=by have h1:=HC.out;rw[hn] at h1;rw[←h1];rfl
   have C:=rOffered_any S8.out.h (i:=k) (by simpa[setM] using hk) hlaid.1 hlaid.2 (fun l hl=>by have:=HOK2.qlen l hl;omega)
   unfold ROff at C
   rw[hv0,hv1] at C
   have C4:=Lib.hid C
   have SA:=md_S (ms:=mdCells (frM V vc a ac b qc) s) rfl
   have O1:=md_o (ms:=mdCells (frM V vc a ac b qc) s) rfl
   clear hN hn hkk HOK2 hlaid hv0 hv1 C
   go_wp2_with (refine wpList_load_mid rfl 31 (.tmp 2) rfl q 0 rfl (mdCells (frM V vc a ac b qc) s) _ S8.out.k.range2 Tryz.underlying31 rfl SS.out ?_)
   refine C4.out.mono ?_
   rintro e w9 ⟨vs9,rfl,h9,ho9⟩
   have S9:=Lib.hid (S8.out.only h9 ho9)
   clear h9 ho9 S8 p0 zp C4
   go_wp2_with (refine wpList_store_row rfl 31 (.tmp 2) (.tmp 120) rfl q (mdCells (frM V vc a ac b qc) s).toArray rfl rfl 31 _ S9.out.k SA.out rfl O1.out ?_)
   go_meet
   exact⟨vs9,by rw[HNN.out];exact S9.out.setK⟩
  ·as_aux_lemma=>
   have tk4:(op.kind==4)=false:=by simp[hkk]
   have tk5:(op.kind==5)=false:=by simp[hkk]
   have tk6:(op.kind==6)=false:=by simp[hkk]
   have tk7:(op.kind==7)=false:=by simp[hkk]
   have tk8:(op.kind==8)=true:=by simp[hkk]
   have hN:=HN.out
   have hn:N=(offerM (setM s k R.1) k,R.2.1):=by rw[←hN];simp[rsEnd,hkk]
   have HNN:=Lib.hid hn
   have HOK2:=HOK.out.set k HRX.out.2
   have hlaid:=HOK2.laid k (by simpa[setM] using hk)
   have hv0:mdV (frM V vc a ac b qc) (setM s k R.1)=.agg (mdCells (frM V vc a ac b qc) s).toArray:=by simp[mdV,mdCells,frM,setM]
   have hv1:mdV (frM V vc a ac b qc) (offerM (setM s k R.1) k)=.agg (mdCells (frM V vc a ac b qc) s).toArray:=by have h1:=HC.out;rw[hn] at h1;rw[←h1];rfl
   have C:=rOffered_any S8.out.h (i:=k) (by simpa[setM] using hk) hlaid.1 hlaid.2 (fun l hl=>by have:=HOK2.qlen l hl;omega)
   unfold ROff at C
   rw[hv0,hv1] at C
   have C4:=Lib.hid C
   have SA:=md_S (ms:=mdCells (frM V vc a ac b qc) s) rfl
   have O1:=md_o (ms:=mdCells (frM V vc a ac b qc) s) rfl
   clear hN hn hkk HOK2 hlaid hv0 hv1 C
   go_wp2_with (refine wpList_load_mid rfl 31 (.tmp 2) rfl q 0 rfl (mdCells (frM V vc a ac b qc) s) _ S8.out.k.range2 Tryz.underlying31 rfl SS.out ?_)
   refine C4.out.mono ?_
   rintro e w9 ⟨vs9,rfl,h9,ho9⟩
   have S9:=Lib.hid (S8.out.only h9 ho9)
   clear h9 ho9 S8 p0 zp C4
   go_wp2_with (refine wpList_store_row rfl 31 (.tmp 2) (.tmp 120) rfl q (mdCells (frM V vc a ac b qc) s).toArray rfl rfl 31 _ S9.out.k SA.out rfl O1.out ?_)
   go_meet
   exact⟨vs9,by rw[HNN.out];exact S9.out.setK⟩
  ·as_aux_lemma=>
   have tk4:(op.kind==4)=false:=by simp[hkk]
   have tk5:(op.kind==5)=false:=by simp[hkk]
   have tk6:(op.kind==6)=false:=by simp[hkk]
   have tk7:(op.kind==7)=false:=by simp[hkk]
   have tk8:(op.kind==8)=false:=by simp[hkk]
   have hN:=HN.out
   have hn:N=(setM s k R.1,R.2.1):=by rw[←hN];simp[rsEnd,hkk]
   clear hN hkk
   go_wp2_with fail
   go_meet
   exact⟨vs,by rw[hn];exact S8.out⟩
 case rest=>
 obtain⟨vs9,hS⟩:=hcut
 rename World=>w10
 have S10:=Lib.hid hS
 clear hS S8 HN
 have S1A:=md_S (ms:=mdCells (frM V vc a ac b qc) s) rfl
 have O1:=md_o (ms:=mdCells (frM V vc a ac b qc) s) rfl
 have S8:=rp_s (ms:=rpCells N.2) rfl
 have S9:=rp_S (ms:=rpCells N.2) rfl
 have O9:=rp_o (ms:=rpCells N.2) rfl
 go_upto_region 31 with fail
 refine wp_region_held (S:=fun X=>BoxN X q 31 (mdCells (frM V vc a ac b qc) s).toArray∧BoxN X (p+1) 49 (rpCells N.2).toArray) (by kernel_rfl) ?_
 refine at_world (fun X=>SeSt w0 W V vc a ac b qc os q p s X vs9 N.1 R.1 N.2) (S10.out.up (bdd (Below.refl _ _))) fun w12 h12=> ?_
 have HSS:=And.intro h12.k h12.y
 have H12:=Lib.hid h12
 clear S10 h12
 refine takeTo (i:=0) (v:=.agg (mdCells (frM V vc a ac b qc) s).toArray) (some 121) rfl rfl (by decide+kernel) (by decide+kernel) (by decide+kernel) (fun _ _ _ h=>h) (yieldsIf_load_mid rfl 31 (.tmp 2) rfl q 0 rfl (mdCells (frM V vc a ac b qc) s) _ (fun W hS=>hS.1.range2) Tryz.underlying31 rfl SS.out) HSS ?_
 refine takeTo (i:=1) (v:=.agg (rpCells N.2).toArray) (some 122) rfl rfl (by decide+kernel) (by decide+kernel) (by decide+kernel) (fun _ _ _ h=>h) (yieldsIf_load_mid rfl 49 (.tmp 11) rfl (p+1) 0 rfl (rpCells N.2) _ (fun W hS=>hS.2.range2) Tryz.underlying49 rfl S8.out) HSS ?_
 refine wpAnyH_all (rs:=[2]) (by decide+kernel) (by simp) fun j hj=> ?_
 obtain rfl:j=2:=by simpa using hj
 clear hj
 refine heldOp rfl fun K hK=> ?_
 go_wp2_with (refine wpList_store_row rfl 31 (.tmp 4) (.tmp 121) rfl (q+1+1) (mdCells (frM V vc a ac b qc) s).toArray rfl rfl 31 _ H12.out.j S1A.out rfl O1.out ?_)
 have hrw:=grownBy_setRow H12.out.j (mdCells (frM V vc a ac b qc) s).toArray
 refine hK.out _ _ ⟨⟨HSS.1.kept hrw.1 (by simp;omega),HSS.2.kept hrw.1 (by simp;omega)⟩, ?_⟩
 clear hK K
 refine wpAnyH_all (rs:=[3]) (by decide+kernel) (by simp) fun j hj=> ?_
 obtain rfl:j=3:=by simpa using hj
 clear hj
 refine heldOp rfl fun K hK=> ?_
 go_wp2_with (refine wpList_store_row rfl 49 (.tmp 5) (.tmp 122) rfl (q+1+1+1) (rpCells N.2).toArray rfl rfl 49 _ (two_rows H12.out.j H12.out.g (by omega) (mdCells (frM V vc a ac b qc) s).toArray #[]).1 S9.out rfl O9.out ?_)
 have hro2:=two_rows H12.out.j H12.out.g (by omega) (mdCells (frM V vc a ac b qc) s).toArray (rpCells N.2).toArray
 refine hK.out _ _ ⟨⟨(HSS.1.kept hrw.1 (by simp;omega)).kept hro2.2.2.1 (by simp;omega),(HSS.2.kept hrw.1 (by simp;omega)).kept hro2.2.2.1 (by simp;omega)⟩, ?_⟩
 clear hK K hrw hro2
 refine wpAnyH_done (by decide+kernel) ?_ _
 go_wp2_with fail
 obtain⟨Y,hY,hR,k3,k4,hO⟩:=H12.out.fin N.2
 rw[HC.out] at hY k3
 rw[←hY]
 clear hY H12 HSS
 have gg:=(show BoxN Y (q+1+1) 31 #[.int .i64 s.ve.shards,.int .i64 s.ve.ttl,.int .i64 s.ve.session,.slice V s.ve.secs.length vc,.int .i64 s.now,.slice (some ⟨a,0,none⟩) s.seats.length ac,.slice (some ⟨b,0,none⟩) s.qs.length qc] from k3).x7
 have uu:=k4.x9
 have hv:mdV (frM V vc a ac b qc) N.1=mdV (frM V vc a ac b qc) s:=show Value.agg (mdCells (frM V vc a ac b qc) N.1).toArray=Value.agg (mdCells (frM V vc a ac b qc) s).toArray by rw[HC.out]
 exact bodyPost_ret (v:=.tuple #[mdV (frM V vc a ac b qc) s,RpV N.2]) (by simp[results,Tryz.results41,go_sem,mdV,RpV,frM,gg,uu]) rfl (show ROp w0 W V vc a ac b qc MM _ _ from⟨vs9,by rw[hM.out,hv],by rw[hM.out];exact hR,hO⟩)
end Go.Proofs.YtlckmjiioohcmaaGreatDoor

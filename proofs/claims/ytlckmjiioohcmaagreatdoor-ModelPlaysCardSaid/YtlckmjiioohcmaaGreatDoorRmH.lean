/-
  Walk of groundlingref23.Do: it answers as model.Do. Conditions: as the theorem says.
-/
import Derived.Test.YtlckmjiioohcmaaGreatDoorRmG
namespace Go.Proofs.YtlckmjiioohcmaaGreatDoor
open Go.RowKit
def SwAt (w X:World) (F:MFrm) (a ac b qc q p:Nat) (ms:List Value) (M1:Md) (M2:MRp):Prop:=
 ∃vs',RMem w X F.V F.vc a ac b qc vs' M1∧BoxN X q 31 ms.toArray∧BoxN X (q+1+1) 31 #[.int .i64 0,.int .i64 0,.int .i64 0,.slice none 0 0,.int .i64 0,.slice none 0 0,.slice none 0 0]∧BoxN X (q+1+1+1) 49 #[.int .i64 0,.int .i64 0,.int .i64 0,.int .i64 0,.int .u32 0,.int .u32 0,.int .u64 0,.int .u64 0,.int .i64 0]∧BoxN X p 31 (mdCells (frM F.V F.vc a ac b qc) M1).toArray∧BoxN X (p+1) 49 (rpCells M2).toArray∧Below w.heap.size w X
theorem RMem.keep {lo:Nat} {w W:World} {F:MFrm} {a ac b qc:Nat} {vs:List Value} {s s':Md} {w0:World} (h:RMem w0 W F.V F.vc a ac b qc vs s') (hk:MdKeep lo w F s) (hb:Below w.heap.size w W) (hve:s'.ve=s.ve):MdKeep lo W (frM F.V F.vc a ac b qc) s':=by
 intro Y hY
 have h0:=hk Y ((Loose.of hb).trans hY)
 have hs:=h.ss.same (fun k hk=>hY.seats k (by cases hk;exact Tag.of_own h.ss)) sxR_flat
 have hq:=h.qb.same (fun k hk=>hY.lists k (by cases hk;exact Tag.of_own h.qb)) vaR_flat
 refine⟨by rw[hve];exact h0.secs,hs.sl, ?_,h.bv.1,h.bv.2.1,h.bv.2.2,h.bn⟩
 obtain⟨A,c,he,h1,h2,h3⟩:=hq.sl
 obtain⟨rfl,_,rfl⟩:A=some ⟨b,0,none⟩∧True∧c=qc:=by
  injection he with e1 e2 e3
  exact⟨e1.symm,trivial,e3.symm⟩
 refine⟨_,_,rfl,by rw[←h.ql];exact h1,h2, ?_⟩
 rcases h3 with⟨h3,h4⟩|⟨b',off,hA,hlt,hcells⟩
 ·exact .inl ⟨by rw[←h.ql];exact h3,h4⟩
 ·injection hA with hA
  injection hA with e1 e2
  subst e1 e2
  refine .inr ⟨b,0,rfl,hlt,fun i l hi=> ?_⟩
  obtain⟨A',c',h5,h6⟩:=h.qq i l hi
  obtain⟨cs,⟨rfl,_⟩,h7⟩:=hcells i _ h5
  exact⟨_,⟨A',c',rfl,(h6.same hY.size hY.ones).1⟩,h7⟩
theorem target_rs {op:MOp} {k:Nat} (h:(targetM op).2.2=0) (hk:rsKind op) (hk1:(targetM op).1=(k:Int)):targetM op=((k:Int),-1,0):=by
 have h0:targetM op=(op.seat,-1,0)∨targetM op=(op.tk.seat,-1,0):=by
  rcases hk with hk|hk|hk|hk|hk|hk|hk
  ·exact .inl (target_seat h (.inl hk))
  ·exact .inl (target_seat h (.inr (.inl hk)))
  ·exact .inl (target_seat h (.inr (.inr (.inl hk))))
  ·exact .inr (target_tk h (.inl hk))
  ·exact .inr (target_tk h (.inr (.inl hk)))
  ·exact .inl (target_seat h (.inr (.inr (.inr hk))))
  ·exact .inr (target_tk h (.inr (.inr hk)))
 rcases h0 with h0|h0<;>
 ·rw[h0] at hk1
  simp only at hk1
  rw[h0,hk1]
set_option maxHeartbeats 16000000 in
set_option maxRecDepth 100000 in
theorem rDo_any (lo:Nat) (F:MFrm) (s:Md) (op:MOp) (w:World) (hk:MdKeep lo w F s) (hn:s.qs.length≤1000∧∀l,l∈s.qs→l.length≤1000) (ho:OpOk op):
 Calls Tryz.prog 17 #[mdV F s,.agg (opCells op).toArray] w (MDoPost lo w s op):=by
 have hM:=Lib.hid (show mdoM s op=if checkM s≠0 then(s,noRp,checkM s) else if plCheckM op≠0 then(s,noRp,plCheckM op) else if refusedM s op (targetM op).1 (targetM op).2.1≠0 then(s,{noRp with err:=refusedM s op (targetM op).1 (targetM op).2.1},0)
  else if(opM s op (targetM op).1.toNat).2.err≠0 then(s,(opM s op (targetM op).1.toNat).2,0) else((opM s op (targetM op).1.toNat).1,(opM s op (targetM op).1.toNat).2,0) by
  unfold mdoM doM
  rw[targetM_err])
 have C1:=Lib.hid (fun X (hb:Below w.heap.size w X)=>rcheck23_any F s X (hk.isMd.up hb) hn)
 have C2:=Lib.hid (fun X=>rPlCheck_any op X)
 have C3:=Lib.hid (fun X (h0:checkM s=0) (h1:plCheckM op=0)=>rWrong_any F s op X ho (checkM_ok.1 h0).qs (plCheckM_ok h1))
 have HC0:=Lib.hid (show checkM s=0→MdOk s from fun h=>checkM_ok.1 h)
 have HP0:=Lib.hid (show plCheckM op=0→1≤op.kind∧op.kind≤12 from fun h=>plCheckM_ok h)
 have HT0:=Lib.hid (show(targetM op).2.2=plCheckM op from targetM_err op)
 have HR0:=Lib.hid (fun h=> @refused_seat s op h)
 have HR1:=Lib.hid (fun h h'=> @refused_sec s op h h')
 have HK:=Lib.hid hk
 have HO:=Lib.hid ho
 generalize hdo:mdoM s op=M at hM
 have HDO:=Lib.hid hdo
 clear hk ho hdo hn
 generalize checkM s=E1 at*
 generalize plCheckM op=E2 at*
 generalize refusedM s op (targetM op).1 (targetM op).2.1=E3 at*
 obtain⟨ms,hms⟩:∃ms:List Value,ms=mdCells F s:=⟨_,rfl⟩
 obtain⟨os,hos⟩:∃os:List Value,os=opCells op:=⟨_,rfl⟩
 rw[show mdV F s=.agg ms.toArray by rw[hms];rfl] at C1 C3⊢
 rw[←hos] at C2 C3⊢
 have HMS:=Lib.hid hms
 have HOS:=Lib.hid hos
 have S1:=md_s hms
 have S2:=Lib.hid (show(Tryz.prog.info? 46).map (·.size)=some os.length by rw[hos];kernel_rfl)
 have S1A:=md_S hms
 have L1:=md_l hms
 have O1:=md_o hms
 clear hms hos
 go_enter Tryz.func17,Tryz.ntmps17
 go_upto_region 1 with fail
 obtain⟨q,hqq⟩:∃q,w.heap.size=q:=⟨_,rfl⟩
 rw[hqq]
 refine at_world (fun X=>Below w.heap.size w X∧BoxN X q 31 ms.toArray∧BoxN X (q+1) 46 os.toArray∧BoxN X (q+1+1) 31 #[.int .i64 0,.int .i64 0,.int .i64 0,.slice none 0 0,.int .i64 0,.slice none 0 0,.slice none 0 0]∧BoxN X (q+1+1+1) 49 #[.int .i64 0,.int .i64 0,.int .i64 0,.int .i64 0,.int .u32 0,.int .u32 0,.int .u64 0,.int .u64 0,.int .i64 0]) (four_boxes hqq _ _ _ _ _ _ _ _) fun w1 hw1=> ?_
 have B1:=Lib.hid hw1.1
 have K1:=Lib.hid hw1.2.1
 have P1:=Lib.hid hw1.2.2.1
 have J1:=Lib.hid hw1.2.2.2.1
 have G1:=Lib.hid hw1.2.2.2.2
 clear hw1
 go_wp2_with (refine wpList_load_mid rfl 31 (.tmp 2) rfl q 0 rfl ms _ K1.out.range2 Tryz.underlying31 rfl S1.out ?_)
 refine(C1.out _ B1.out).mono ?_
 rintro e w2 ⟨rfl,hb⟩
 have K2:=Lib.hid (K1.out.later hb)
 have P2:=Lib.hid (P1.out.later hb)
 have J2:=Lib.hid (J1.out.later hb)
 have G2:=Lib.hid (G1.out.later hb)
 have B2:=Lib.hid (B1.out.trans (hb.mono B1.out.size))
 clear hb K1 P1 J1 G1 B1
 by_cases h1:E1=0
 case neg=>as_aux_lemma=>
  have t1:(E1==0)=false:=by simpa using h1
  have t2:(E1 !=0)=true:=by simpa using h1
  have hM1:=Lib.hid (show M=(s,noRp,E1) by rw[hM.out,if_pos h1])
  clear h1 hM HC0 C3
  have S9:=rp_S (ms:=rpCells noRp) rfl
  have O9:=rp_o (ms:=rpCells noRp) rfl
  go_wp2_with (first|refine wpList_load_mid rfl 31 (.tmp 2) rfl q 0 rfl ms _ K2.out.range2 Tryz.underlying31 rfl S1.out ?_|refine wpList_store_row rfl 31 (.tmp 4) (.tmp 18) rfl (q+1+1) ms.toArray rfl rfl 31 _ J2.out S1A.out L1.out.symm O1.out ?_|refine wpList_store_row rfl 49 (.tmp 5) (.tmp 19) rfl (q+1+1+1) (rpCells noRp).toArray rfl rfl 49 _ (two_rows J2.out G2.out (by omega) ms.toArray #[]).1 S9.out rfl O9.out ?_)
  have hrow:=two_rows J2.out G2.out (by omega) ms.toArray (rpCells noRp).toArray
  refine at_world (fun Y=>Below w.heap.size w Y∧BoxN Y (q+1+1) 31 ms.toArray∧BoxN Y (q+1+1+1) 49 (rpCells noRp).toArray) ⟨(B2.out.grown hrow.2.1 B2.out.size (fun k hk=>by injection hk with hk;omega)).grown hrow.2.2.1 (by have:=B2.out.size;simp;omega) (fun k hk=>by injection hk with hk;omega),hrow.2.2.2.1,hrow.2.2.2.2⟩ fun Y hY=> ?_
  clear hrow
  have k3:=hY.2.1
  have k4:=hY.2.2
  rw[HMS.out] at k3
  have gg:=k3.x7
  have uu:=k4.x9
  clear k3 k4
  exact bodyPost_ret (v:=.tuple #[mdV F s,RpV noRp,.int .i64 (E1)]) (by simp[results,Tryz.results17,go_sem,mdV,RpV,gg,uu]) rfl (show MDoPost lo w s op _ _ from⟨F,by rw[HDO.out,hM1.out],hY.1,by rw[HDO.out,hM1.out];exact HK.out.up (Loose.of hY.1)⟩)
 subst h1
 rw[if_neg (by simp)] at hM
 have HOK:=Lib.hid (HC0.out rfl)
 replace C3:=Lib.hid (fun X=>C3.out X rfl)
 go_wp2_with (refine wpList_load_mid rfl 46 (.tmp 3) rfl (q+1) 0 rfl os _ P2.out.range2 Tryz.underlying46 rfl S2.out ?_)
 refine(C2.out _).mono ?_
 rintro e w3 ⟨rfl,hb⟩
 have K3:=Lib.hid (K2.out.later hb)
 have P3:=Lib.hid (P2.out.later hb)
 have J3:=Lib.hid (J2.out.later hb)
 have G3:=Lib.hid (G2.out.later hb)
 have B3:=Lib.hid (B2.out.trans (hb.mono B2.out.size))
 clear hb K2 P2 J2 G2 B2
 by_cases h2:E2=0
 case neg=>as_aux_lemma=>
  have t2:(E2 !=0)=true:=by simpa using h2
  have hM1:=Lib.hid (show M=(s,noRp,E2) by rw[hM.out,if_pos h2])
  clear h2 hM HC0 C3
  have S9:=rp_S (ms:=rpCells noRp) rfl
  have O9:=rp_o (ms:=rpCells noRp) rfl
  go_wp2_with (first|refine wpList_load_mid rfl 31 (.tmp 2) rfl q 0 rfl ms _ K3.out.range2 Tryz.underlying31 rfl S1.out ?_|refine wpList_store_row rfl 31 (.tmp 4) (.tmp 18) rfl (q+1+1) ms.toArray rfl rfl 31 _ J3.out S1A.out L1.out.symm O1.out ?_|refine wpList_store_row rfl 49 (.tmp 5) (.tmp 19) rfl (q+1+1+1) (rpCells noRp).toArray rfl rfl 49 _ (two_rows J3.out G3.out (by omega) ms.toArray #[]).1 S9.out rfl O9.out ?_)
  have hrow:=two_rows J3.out G3.out (by omega) ms.toArray (rpCells noRp).toArray
  refine at_world (fun Y=>Below w.heap.size w Y∧BoxN Y (q+1+1) 31 ms.toArray∧BoxN Y (q+1+1+1) 49 (rpCells noRp).toArray) ⟨(B3.out.grown hrow.2.1 B3.out.size (fun k hk=>by injection hk with hk;omega)).grown hrow.2.2.1 (by have:=B3.out.size;simp;omega) (fun k hk=>by injection hk with hk;omega),hrow.2.2.2.1,hrow.2.2.2.2⟩ fun Y hY=> ?_
  clear hrow
  have k3:=hY.2.1
  have k4:=hY.2.2
  rw[HMS.out] at k3
  have gg:=k3.x7
  have uu:=k4.x9
  clear k3 k4
  exact bodyPost_ret (v:=.tuple #[mdV F s,RpV noRp,.int .i64 (E2)]) (by simp[results,Tryz.results17,go_sem,mdV,RpV,gg,uu]) rfl (show MDoPost lo w s op _ _ from⟨F,by rw[HDO.out,hM1.out],hY.1,by rw[HDO.out,hM1.out];exact HK.out.up (Loose.of hY.1)⟩)
 subst h2
 rw[if_neg (by simp)] at hM
 have hkd:=HP0.out rfl
 replace C3:=Lib.hid (fun X=>C3.out X rfl)
 go_wp2_with (first|refine wpList_load_mid rfl 31 (.tmp 2) rfl q 0 rfl ms _ K3.out.range2 Tryz.underlying31 rfl S1.out ?_|refine wpList_load_mid rfl 46 (.tmp 3) rfl (q+1) 0 rfl os _ P3.out.range2 Tryz.underlying46 rfl S2.out ?_)
 refine(C3.out _).mono ?_
 rintro e w4 ⟨rfl,hb⟩
 have K4:=Lib.hid (K3.out.later hb)
 have P4:=Lib.hid (P3.out.later hb)
 have J4:=Lib.hid (J3.out.later hb)
 have G4:=Lib.hid (G3.out.later hb)
 have B4:=Lib.hid (B3.out.trans (hb.mono B3.out.size))
 clear hb K3 P3 J3 G3 B3
 have hqw:=Lib.hid (show q+1+1+1<w4.heap.size from G4.out.lt)
 by_cases h3:E3=0
 case neg=>as_aux_lemma=>
  have t2:(E3 !=0)=true:=by simpa using h3
  have hM1:=Lib.hid (show M=(s,{noRp with err:=E3},0) by rw[hM.out,if_pos h3])
  clear h3 hM HC0 C3
  have S9:=rp_S (ms:=rpCells {noRp with err:=E3}) rfl
  have O9:=rp_o (ms:=rpCells {noRp with err:=E3}) rfl
  go_wp2_with (first|refine wpList_load_mid rfl 31 (.tmp 2) rfl q 0 rfl ms _ K4.out.range2 Tryz.underlying31 rfl S1.out ?_|refine wpList_store_row rfl 31 (.tmp 4) (.tmp 26) rfl (q+1+1) ms.toArray rfl rfl 31 _ J4.out S1A.out L1.out.symm O1.out ?_|refine wpList_store_row rfl 49 (.tmp 5) (.tmp 28) rfl (q+1+1+1) (rpCells {noRp with err:=E3}).toArray rfl rfl 49 _ (two_rows J4.out G4.out (by omega) ms.toArray #[]).1 S9.out rfl O9.out ?_)
  have hrow:=two_rows J4.out G4.out (by omega) ms.toArray (rpCells {noRp with err:=E3}).toArray
  refine at_world (fun Y=>Below w.heap.size w Y∧BoxN Y (q+1+1) 31 ms.toArray∧BoxN Y (q+1+1+1) 49 (rpCells {noRp with err:=E3}).toArray) ⟨(B4.out.grown hrow.2.1 B4.out.size (fun k hk=>by injection hk with hk;omega)).grown hrow.2.2.1 (by have:=B4.out.size;simp;omega) (fun k hk=>by injection hk with hk;omega),hrow.2.2.2.1,hrow.2.2.2.2⟩ fun Y hY=> ?_
  clear hrow
  have k3:=hY.2.1
  have k4:=hY.2.2
  rw[HMS.out] at k3
  have gg:=k3.x7
  have uu:=k4.x9
  clear k3 k4
  exact bodyPost_ret (v:=.tuple #[mdV F s,RpV {noRp with err:=E3},.int .i64 (0)]) (by simp[results,Tryz.results17,go_sem,mdV,RpV,gg,uu]) rfl (show MDoPost lo w s op _ _ from⟨F,by rw[HDO.out,hM1.out],hY.1,by rw[HDO.out,hM1.out];exact HK.out.up (Loose.of hY.1)⟩)
 subst h3
 rw[if_neg (by simp)] at hM
 have C4:=Lib.hid (fun X (hb:Below w.heap.size w X)=>show Calls Tryz.prog 36 #[.agg ms.toArray] X (RCopyPost X F.V F.vc s) by
  rw[HMS.out]
  exact rCopy_any F s X (HK.out.isMd.up hb) ⟨by have:=HOK.out.nqs;omega,fun l hl=>by have:=HOK.out.qlen l hl;omega,by have:=HOK.out.len;omega⟩ (seats_pos HOK.out) (fun e=>by have h0:=HOK.out.qs;have h1:=secs_pos HOK.out.ve;rw[e] at h0;simp at h0;omega))
 clear C1 C2 C3 HC0 HP0
 go_wp2_with (refine wpList_load_mid rfl 31 (.tmp 2) rfl q 0 rfl ms _ K4.out.range2 Tryz.underlying31 rfl S1.out ?_)
 refine(C4.out _ B4.out).mono ?_
 intro e w5 h5
 obtain⟨a,ac,b,qc,vs,rfl,hr5⟩:=h5
 have hb:Below w4.heap.size w4 w5:=hr5.bw
 have HB4:=Lib.hid B4.out
 have hle4:=B4.out.size
 have haq:=hr5.aB
 have hbq:=hr5.bB
 have R5:=Lib.hid (show RMem w w5 F.V F.vc a ac b qc vs s from⟨B4.out.trans (hr5.bw.mono hle4),HK.out.isMd.secs,hr5.ss.mono hle4,hr5.qb.mono hle4,hr5.ql,hr5.qq,hr5.bv,hr5.bn⟩)
 clear hr5 C4
 have K5:=Lib.hid (K4.out.later hb)
 have P5:=Lib.hid (P4.out.later hb)
 have J5:=Lib.hid (J4.out.later hb)
 have G5:=Lib.hid (G4.out.later hb)
 have B5:=Lib.hid (B4.out.trans (hb.mono B4.out.size))
 clear hb K4 P4 J4 G4 B4
 have hs5:=B5.out.size
 obtain⟨p,hpp⟩:∃p,w5.heap.size=p:=⟨_,rfl⟩
 unfold mdV frM
 simp only
 go_upto_region 11 with fail
 refine at_world (fun X=>RMem w X F.V F.vc a ac b qc vs s∧BoxN X q 31 ms.toArray∧BoxN X (q+1) 46 os.toArray∧BoxN X (q+1+1) 31 #[.int .i64 0,.int .i64 0,.int .i64 0,.slice none 0 0,.int .i64 0,.slice none 0 0,.slice none 0 0]∧BoxN X (q+1+1+1) 49 #[.int .i64 0,.int .i64 0,.int .i64 0,.int .i64 0,.int .u32 0,.int .u32 0,.int .u64 0,.int .u64 0,.int .i64 0]∧BoxN X p 31 (mdCells (frM F.V F.vc a ac b qc) s).toArray∧BoxN X (p+1) 49 #[.int .i64 0,.int .i64 0,.int .i64 0,.int .i64 0,.int .u32 0,.int .u32 0,.int .u64 0,.int .u64 0,.int .i64 0]∧Below w.heap.size w X) ⟨R5.out.up (two_boxes hpp _ _ _ _).1,(K5.out.alloc _).alloc _,(P5.out.alloc _).alloc _,(J5.out.alloc _).alloc _,(G5.out.alloc _).alloc _,(two_boxes hpp _ _ _ _).2.1,(two_boxes hpp _ _ _ _).2.2,B5.out.trans ((two_boxes hpp _ _ _ _).1.mono hs5)⟩ fun w6 h6=> ?_
 have H6:=Lib.hid h6.1
 have K6:=Lib.hid h6.2.1
 have P6:=Lib.hid h6.2.2.1
 have J6:=Lib.hid h6.2.2.2.1
 have G6:=Lib.hid h6.2.2.2.2.1
 have X6:=Lib.hid h6.2.2.2.2.2.1
 have Y6:=Lib.hid h6.2.2.2.2.2.2.1
 have B6:=Lib.hid h6.2.2.2.2.2.2.2
 have hqp:q+1+1+1<p:=by have:=G5.out.lt;omega
 rw[hpp] at haq hbq
 have hqw4:q+1+1+1<w4.heap.size:=hqw.out
 clear h6 R5 K5 P5 J5 G5 B5 hs5
 have hkk:op.kind=1∨rsKind op∨op.kind=3∨op.kind=10∨op.kind=11∨op.kind=12:=by unfold rsKind;omega
 clear hkd hpp
 have POP:=Lib.hid (show BoxN w6 (q+1) 46 (opCells op).toArray by rw[←HOS.out];exact P6.out)
 have p0:=POP.out.cell 0 (.int .i64 op.kind) rfl
 have zp:=POP.out.lt
 go_upto_block 0 with fail
 clear p0 zp
 go_cut [] from 33 to 76 (fun X=>SwAt w X F a ac b qc q p ms (opM s op (targetM op).1.toNat).1 (opM s op (targetM op).1.toNat).2)
 case first=>
  rcases hkk with hkk|hkk|hkk|hkk|hkk|hkk
  ·as_aux_lemma=>
   have tk1:(op.kind==1)=true:=by simp[hkk]
   have tk12:(op.kind==12)=false:=by simp[hkk]
   have tk3:(op.kind==3)=false:=by simp[hkk]
   have tk10:(op.kind==10)=false:=by simp[hkk]
   have tk11:(op.kind==11)=false:=by simp[hkk]
   have hnb:opM s op (targetM op).1.toNat=(s,{noRp with deadline:=untilM s s.ve.session}):=by simp[opM,hkk,openM]
   have HGN:=Lib.hid hnb
   have CU:=Lib.hid (fun X=>show Calls Tryz.prog 37 #[.agg ms.toArray,.int .i64 s.ve.session] X fun e w'=>e=.returned (.int .i64 (untilM s s.ve.session))∧Below X.heap.size X w' by
    rw[HMS.out]
    exact rUntil_any F s s.ve.session X HK.out.isMd.now HK.out.isMd.session)
   generalize untilM s s.ve.session=D at*
   have K6e:=Lib.hid (show BoxN w6 q 31 (mdCells F s).toArray by rw[←HMS.out];exact K6.out)
   have c2:=K6e.out.cell 2 (.int .i64 s.ve.session) rfl
   have zq:=K6e.out.lt
   have p0:=POP.out.cell 0 (.int .i64 op.kind) rfl
   have zp:=POP.out.lt
   clear hnb HR0 HR1 HT0 hM hkk
   go_wp2_with (refine wpList_load_mid rfl 31 (.tmp 2) rfl q 0 rfl ms _ K6.out.range2 Tryz.underlying31 rfl S1.out ?_)
   refine(CU.out _).mono ?_
   rintro e w7 ⟨rfl,hb⟩
   have K7:=Lib.hid (K6.out.later hb)
   have J7:=Lib.hid (J6.out.later hb)
   have G7:=Lib.hid (G6.out.later hb)
   have X7:=Lib.hid (X6.out.later hb)
   have Y7:=Lib.hid (Y6.out.later hb)
   have H7:=Lib.hid (H6.out.up hb)
   clear hb CU c2 zq p0 zp K6e H6 K6 P6 J6 G6 X6 Y6 B6 POP
   have y3:=Y7.out.cell 3 (.int .i64 0) rfl
   have fy:=Y7.out.frozen 3
   have zy:=Y7.out.lt
   go_wp2_with fail
   have hgy:=grownBy_set w7 (p+1) 3 (.int .i64 D)
   have hh:=H7.out.kept hgy (Tag.of_box Y7.out) (by omega) (by decide) (by decide) (by decide)
   have hsw:SwAt w (w7.setCell ⟨p+1,3,none⟩ (.int .i64 D)) F a ac b qc q p ms s {noRp with deadline:=D}:=⟨vs,hh,K7.out.kept hgy (by simp;omega),J7.out.kept hgy (by simp;omega),G7.out.kept hgy (by simp;omega),X7.out.kept hgy (by simp),Y7.out.set 3 _,hh.bw⟩
   clear hgy hh y3 fy zy
   go_meet
   rw[HGN.out]
   exact hsw
  ·as_aux_lemma=>
   have hne:op.kind≠1∧op.kind≠12∧op.kind≠3∧op.kind≠10∧op.kind≠11:=by unfold rsKind at hkk;omega
   have tk1:(op.kind==1)=false:=by simp[hne]
   have tk12:(op.kind==12)=false:=by simp[hne]
   have tk3:(op.kind==3)=false:=by simp[hne]
   have tk10:(op.kind==10)=false:=by simp[hne]
   have tk11:(op.kind==11)=false:=by simp[hne]
   obtain⟨k,hk1,hk2⟩:=HR0.out (by trivial) (by unfold rsKind at hkk;omega)
   have hta:=target_rs HT0.out hkk hk1
   have hnk:(targetM op).1.toNat=k:=by rw[hta];simp
   have c5:=rSeat_any H6.out HOK.out hk2 HO.out hta hkk
   have hnb:opM s op (targetM op).1.toNat=opM s op k:=by rw[hnk]
   generalize hgen:opM s op k=N at*
   have HGN:=Lib.hid hnb
   clear hgen hnb
   obtain⟨nx,hnx⟩:∃nx:List Value,nx=mdCells (frM F.V F.vc a ac b qc) s:=⟨_,rfl⟩
   have X6x:=Lib.hid (show BoxN w6 p 31 nx.toArray by rw[hnx];exact X6.out)
   have SX:=md_s hnx
   obtain⟨n1,hn1⟩:∃n1:List Value,n1=mdCells (frM F.V F.vc a ac b qc) N.1:=⟨_,rfl⟩
   obtain⟨r1,hr1⟩:∃r1:List Value,r1=rpCells N.2:=⟨_,rfl⟩
   have C5:=Lib.hid (show Calls Tryz.prog 41 #[.agg nx.toArray,.agg os.toArray] w6 fun e w'=> ∃vs',e=.returned (.tuple #[.agg n1.toArray,.agg r1.toArray])∧RMem w w' F.V F.vc a ac b qc vs' N.1∧Only3 a a b w6 w' by
    rw[hnx,hn1,hr1,HOS.out]
    exact c5)
   have T1A:=md_S hn1
   have TL:=Lib.hid (show nx.toArray.size=n1.toArray.size by rw[hn1,hnx];rfl)
   have TO:=md_o hn1
   have U1A:=rp_S hr1
   have UL:=Lib.hid (show(9:Nat)=r1.toArray.size by rw[hr1];rfl)
   have UO:=rp_o hr1
   have HN1:=Lib.hid hn1
   have HR1':=Lib.hid hr1
   have p0:=POP.out.cell 0 (.int .i64 op.kind) rfl
   have zp:=POP.out.lt
   clear hnx hn1 hr1 c5 HR0 HR1 HT0 hM X6 hkk hne
   go_wp2_with (first|refine wpList_load_mid rfl 31 (.tmp 8) rfl p 0 rfl nx _ X6x.out.range2 Tryz.underlying31 rfl SX.out ?_|refine wpList_load_mid rfl 46 (.tmp 3) rfl (q+1) 0 rfl os _ P6.out.range2 Tryz.underlying46 rfl S2.out ?_)
   refine C5.out.mono ?_
   rintro e w7 ⟨vs',rfl,h7,ho7⟩
   have K7:=Lib.hid (K6.out.only ho7 (by omega) (by omega) (by omega))
   have J7:=Lib.hid (J6.out.only ho7 (by omega) (by omega) (by omega))
   have G7:=Lib.hid (G6.out.only ho7 (by omega) (by omega) (by omega))
   have X7:=Lib.hid (X6x.out.only ho7 (by omega) (by omega) (by omega))
   have Y7:=Lib.hid (Y6.out.only ho7 (by omega) (by omega) (by omega))
   have H7:=Lib.hid h7
   clear h7 ho7 C5 H6 K6 P6 J6 G6 X6x Y6 B6 p0 zp POP
   go_wp2_with (first|refine wpList_store_row rfl 31 (.tmp 8) (.tmp 37) rfl p n1.toArray rfl rfl 31 _ X7.out T1A.out TL.out TO.out ?_|refine wpList_store_row rfl 49 (.tmp 9) (.tmp 38) rfl (p+1) r1.toArray rfl rfl 49 _ (two_rows X7.out Y7.out (by omega) n1.toArray #[]).1 U1A.out UL.out UO.out ?_)
   have hrow:=two_rows X7.out Y7.out (by omega) n1.toArray r1.toArray
   have hsw:SwAt w _ F a ac b qc q p ms N.1 N.2:=⟨vs',(H7.out.kept hrow.2.1 (Tag.of_box X7.out) (by omega) (by decide) (by decide) (by decide)).kept hrow.2.2.1 (Tag.of_box hrow.1) (by omega) (by decide) (by decide) (by decide),(K7.out.kept hrow.2.1 (by simp;omega)).kept hrow.2.2.1 (by simp;omega),(J7.out.kept hrow.2.1 (by simp;omega)).kept hrow.2.2.1 (by simp;omega),(G7.out.kept hrow.2.1 (by simp;omega)).kept hrow.2.2.1 (by simp;omega),by rw[←HN1.out];exact hrow.2.2.2.1,by rw[←HR1'.out];exact hrow.2.2.2.2,((H7.out.kept hrow.2.1 (Tag.of_box X7.out) (by omega) (by decide) (by decide) (by decide)).kept hrow.2.2.1 (Tag.of_box hrow.1) (by omega) (by decide) (by decide) (by decide)).bw⟩
   clear hrow
   dsimp only[Act.put]
   go_meet
   rw[HGN.out]
   exact hsw
  ·as_aux_lemma=>
   have tk1:(op.kind==1)=false:=by simp[hkk]
   have tk12:(op.kind==12)=false:=by simp[hkk]
   have tk3:(op.kind==3)=true:=by simp[hkk]
   have tk10:(op.kind==10)=false:=by simp[hkk]
   have tk11:(op.kind==11)=false:=by simp[hkk]
   have hnb:opM s op (targetM op).1.toNat=blockM s op:=by simp[opM,hkk]
   have c5:=rBlock_any H6.out (HOK.out.len) HO.out
   generalize hgen:blockM s op=N at*
   have HGN:=Lib.hid hnb
   clear hgen hnb
   obtain⟨nx,hnx⟩:∃nx:List Value,nx=mdCells (frM F.V F.vc a ac b qc) s:=⟨_,rfl⟩
   have X6x:=Lib.hid (show BoxN w6 p 31 nx.toArray by rw[hnx];exact X6.out)
   have SX:=md_s hnx
   obtain⟨n1,hn1⟩:∃n1:List Value,n1=mdCells (frM F.V F.vc a ac b qc) N.1:=⟨_,rfl⟩
   obtain⟨r1,hr1⟩:∃r1:List Value,r1=rpCells N.2:=⟨_,rfl⟩
   have C5:=Lib.hid (show Calls Tryz.prog 39 #[.agg nx.toArray,.agg os.toArray] w6 fun e w'=> ∃vs',e=.returned (.tuple #[.agg n1.toArray,.agg r1.toArray])∧RMem w w' F.V F.vc a ac b qc vs' N.1∧Only3 a a b w6 w' by
    rw[hnx,hn1,hr1,HOS.out]
    exact c5)
   have T1A:=md_S hn1
   have TL:=Lib.hid (show nx.toArray.size=n1.toArray.size by rw[hn1,hnx];rfl)
   have TO:=md_o hn1
   have U1A:=rp_S hr1
   have UL:=Lib.hid (show(9:Nat)=r1.toArray.size by rw[hr1];rfl)
   have UO:=rp_o hr1
   have HN1:=Lib.hid hn1
   have HR1':=Lib.hid hr1
   have p0:=POP.out.cell 0 (.int .i64 op.kind) rfl
   have zp:=POP.out.lt
   clear hnx hn1 hr1 c5 HR0 HR1 HT0 hM X6 hkk
   go_wp2_with (first|refine wpList_load_mid rfl 31 (.tmp 8) rfl p 0 rfl nx _ X6x.out.range2 Tryz.underlying31 rfl SX.out ?_|refine wpList_load_mid rfl 46 (.tmp 3) rfl (q+1) 0 rfl os _ P6.out.range2 Tryz.underlying46 rfl S2.out ?_)
   refine C5.out.mono ?_
   rintro e w7 ⟨vs',rfl,h7,ho7⟩
   have K7:=Lib.hid (K6.out.only ho7 (by omega) (by omega) (by omega))
   have J7:=Lib.hid (J6.out.only ho7 (by omega) (by omega) (by omega))
   have G7:=Lib.hid (G6.out.only ho7 (by omega) (by omega) (by omega))
   have X7:=Lib.hid (X6x.out.only ho7 (by omega) (by omega) (by omega))
   have Y7:=Lib.hid (Y6.out.only ho7 (by omega) (by omega) (by omega))
   have H7:=Lib.hid h7
   clear h7 ho7 C5 H6 K6 P6 J6 G6 X6x Y6 B6 p0 zp POP
   go_wp2_with (first|refine wpList_store_row rfl 31 (.tmp 8) (.tmp 66) rfl p n1.toArray rfl rfl 31 _ X7.out T1A.out TL.out TO.out ?_|refine wpList_store_row rfl 49 (.tmp 9) (.tmp 67) rfl (p+1) r1.toArray rfl rfl 49 _ (two_rows X7.out Y7.out (by omega) n1.toArray #[]).1 U1A.out UL.out UO.out ?_)
   have hrow:=two_rows X7.out Y7.out (by omega) n1.toArray r1.toArray
   have hsw:SwAt w _ F a ac b qc q p ms N.1 N.2:=⟨vs',(H7.out.kept hrow.2.1 (Tag.of_box X7.out) (by omega) (by decide) (by decide) (by decide)).kept hrow.2.2.1 (Tag.of_box hrow.1) (by omega) (by decide) (by decide) (by decide),(K7.out.kept hrow.2.1 (by simp;omega)).kept hrow.2.2.1 (by simp;omega),(J7.out.kept hrow.2.1 (by simp;omega)).kept hrow.2.2.1 (by simp;omega),(G7.out.kept hrow.2.1 (by simp;omega)).kept hrow.2.2.1 (by simp;omega),by rw[←HN1.out];exact hrow.2.2.2.1,by rw[←HR1'.out];exact hrow.2.2.2.2,((H7.out.kept hrow.2.1 (Tag.of_box X7.out) (by omega) (by decide) (by decide) (by decide)).kept hrow.2.2.1 (Tag.of_box hrow.1) (by omega) (by decide) (by decide) (by decide)).bw⟩
   clear hrow
   dsimp only[Act.put]
   go_meet
   rw[HGN.out]
   exact hsw
  ·as_aux_lemma=>
   have tk1:(op.kind==1)=false:=by simp[hkk]
   have tk12:(op.kind==12)=false:=by simp[hkk]
   have tk3:(op.kind==3)=false:=by simp[hkk]
   have tk10:(op.kind==10)=true:=by simp[hkk]
   have tk11:(op.kind==11)=false:=by simp[hkk]
   obtain⟨k,hk1,hk2⟩:=HR1.out HT0.out (by trivial) (by omega)
   have hnb:opM s op (targetM op).1.toNat=listsM s op k:=by simp[opM,listsM,hkk,hk1]
   have c5:=rLists_any H6.out hk2 HOK.out.qs (fun l hl=>by have:=HOK.out.qlen l hl;omega) HO.out hk1
   generalize hgen:listsM s op k=N at*
   have HGN:=Lib.hid hnb
   clear hgen hnb
   obtain⟨nx,hnx⟩:∃nx:List Value,nx=mdCells (frM F.V F.vc a ac b qc) s:=⟨_,rfl⟩
   have X6x:=Lib.hid (show BoxN w6 p 31 nx.toArray by rw[hnx];exact X6.out)
   have SX:=md_s hnx
   obtain⟨n1,hn1⟩:∃n1:List Value,n1=mdCells (frM F.V F.vc a ac b qc) N.1:=⟨_,rfl⟩
   obtain⟨r1,hr1⟩:∃r1:List Value,r1=rpCells N.2:=⟨_,rfl⟩
   have C5:=Lib.hid (show Calls Tryz.prog 40 #[.agg nx.toArray,.agg os.toArray] w6 fun e w'=> ∃vs',e=.returned (.tuple #[.agg n1.toArray,.agg r1.toArray])∧RMem w w' F.V F.vc a ac b qc vs' N.1∧Only3 a a b w6 w' by
    rw[hnx,hn1,hr1,HOS.out]
    exact c5)
   have T1A:=md_S hn1
   have TL:=Lib.hid (show nx.toArray.size=n1.toArray.size by rw[hn1,hnx];rfl)
   have TO:=md_o hn1
   have U1A:=rp_S hr1
   have UL:=Lib.hid (show(9:Nat)=r1.toArray.size by rw[hr1];rfl)
   have UO:=rp_o hr1
   have HN1:=Lib.hid hn1
   have HR1':=Lib.hid hr1
   have p0:=POP.out.cell 0 (.int .i64 op.kind) rfl
   have zp:=POP.out.lt
   clear hnx hn1 hr1 c5 HR0 HR1 HT0 hM X6 hkk
   go_wp2_with (first|refine wpList_load_mid rfl 31 (.tmp 8) rfl p 0 rfl nx _ X6x.out.range2 Tryz.underlying31 rfl SX.out ?_|refine wpList_load_mid rfl 46 (.tmp 3) rfl (q+1) 0 rfl os _ P6.out.range2 Tryz.underlying46 rfl S2.out ?_)
   refine C5.out.mono ?_
   rintro e w7 ⟨vs',rfl,h7,ho7⟩
   have K7:=Lib.hid (K6.out.only ho7 (by omega) (by omega) (by omega))
   have J7:=Lib.hid (J6.out.only ho7 (by omega) (by omega) (by omega))
   have G7:=Lib.hid (G6.out.only ho7 (by omega) (by omega) (by omega))
   have X7:=Lib.hid (X6x.out.only ho7 (by omega) (by omega) (by omega))
   have Y7:=Lib.hid (Y6.out.only ho7 (by omega) (by omega) (by omega))
   have H7:=Lib.hid h7
   clear h7 ho7 C5 H6 K6 P6 J6 G6 X6x Y6 B6 p0 zp POP
   go_wp2_with (first|refine wpList_store_row rfl 31 (.tmp 8) (.tmp 75) rfl p n1.toArray rfl rfl 31 _ X7.out T1A.out TL.out TO.out ?_|refine wpList_store_row rfl 49 (.tmp 9) (.tmp 76) rfl (p+1) r1.toArray rfl rfl 49 _ (two_rows X7.out Y7.out (by omega) n1.toArray #[]).1 U1A.out UL.out UO.out ?_)
   have hrow:=two_rows X7.out Y7.out (by omega) n1.toArray r1.toArray
   have hsw:SwAt w _ F a ac b qc q p ms N.1 N.2:=⟨vs',(H7.out.kept hrow.2.1 (Tag.of_box X7.out) (by omega) (by decide) (by decide) (by decide)).kept hrow.2.2.1 (Tag.of_box hrow.1) (by omega) (by decide) (by decide) (by decide),(K7.out.kept hrow.2.1 (by simp;omega)).kept hrow.2.2.1 (by simp;omega),(J7.out.kept hrow.2.1 (by simp;omega)).kept hrow.2.2.1 (by simp;omega),(G7.out.kept hrow.2.1 (by simp;omega)).kept hrow.2.2.1 (by simp;omega),by rw[←HN1.out];exact hrow.2.2.2.1,by rw[←HR1'.out];exact hrow.2.2.2.2,((H7.out.kept hrow.2.1 (Tag.of_box X7.out) (by omega) (by decide) (by decide) (by decide)).kept hrow.2.2.1 (Tag.of_box hrow.1) (by omega) (by decide) (by decide) (by decide)).bw⟩
   clear hrow
   dsimp only[Act.put]
   go_meet
   rw[HGN.out]
   exact hsw
  ·as_aux_lemma=>
   have tk1:(op.kind==1)=false:=by simp[hkk]
   have tk12:(op.kind==12)=false:=by simp[hkk]
   have tk3:(op.kind==3)=false:=by simp[hkk]
   have tk10:(op.kind==10)=false:=by simp[hkk]
   have tk11:(op.kind==11)=true:=by simp[hkk]
   obtain⟨k,hk1,hk2⟩:=HR1.out HT0.out (by trivial) (by omega)
   have hnb:opM s op (targetM op).1.toNat=listsM s op k:=by simp[opM,listsM,hkk,hk1]
   have c5:=rLists_any H6.out hk2 HOK.out.qs (fun l hl=>by have:=HOK.out.qlen l hl;omega) HO.out hk1
   generalize hgen:listsM s op k=N at*
   have HGN:=Lib.hid hnb
   clear hgen hnb
   obtain⟨nx,hnx⟩:∃nx:List Value,nx=mdCells (frM F.V F.vc a ac b qc) s:=⟨_,rfl⟩
   have X6x:=Lib.hid (show BoxN w6 p 31 nx.toArray by rw[hnx];exact X6.out)
   have SX:=md_s hnx
   obtain⟨n1,hn1⟩:∃n1:List Value,n1=mdCells (frM F.V F.vc a ac b qc) N.1:=⟨_,rfl⟩
   obtain⟨r1,hr1⟩:∃r1:List Value,r1=rpCells N.2:=⟨_,rfl⟩
   have C5:=Lib.hid (show Calls Tryz.prog 40 #[.agg nx.toArray,.agg os.toArray] w6 fun e w'=> ∃vs',e=.returned (.tuple #[.agg n1.toArray,.agg r1.toArray])∧RMem w w' F.V F.vc a ac b qc vs' N.1∧Only3 a a b w6 w' by
    rw[hnx,hn1,hr1,HOS.out]
    exact c5)
   have T1A:=md_S hn1
   have TL:=Lib.hid (show nx.toArray.size=n1.toArray.size by rw[hn1,hnx];rfl)
   have TO:=md_o hn1
   have U1A:=rp_S hr1
   have UL:=Lib.hid (show(9:Nat)=r1.toArray.size by rw[hr1];rfl)
   have UO:=rp_o hr1
   have HN1:=Lib.hid hn1
   have HR1':=Lib.hid hr1
   have p0:=POP.out.cell 0 (.int .i64 op.kind) rfl
   have zp:=POP.out.lt
   clear hnx hn1 hr1 c5 HR0 HR1 HT0 hM X6 hkk
   go_wp2_with (first|refine wpList_load_mid rfl 31 (.tmp 8) rfl p 0 rfl nx _ X6x.out.range2 Tryz.underlying31 rfl SX.out ?_|refine wpList_load_mid rfl 46 (.tmp 3) rfl (q+1) 0 rfl os _ P6.out.range2 Tryz.underlying46 rfl S2.out ?_)
   refine C5.out.mono ?_
   rintro e w7 ⟨vs',rfl,h7,ho7⟩
   have K7:=Lib.hid (K6.out.only ho7 (by omega) (by omega) (by omega))
   have J7:=Lib.hid (J6.out.only ho7 (by omega) (by omega) (by omega))
   have G7:=Lib.hid (G6.out.only ho7 (by omega) (by omega) (by omega))
   have X7:=Lib.hid (X6x.out.only ho7 (by omega) (by omega) (by omega))
   have Y7:=Lib.hid (Y6.out.only ho7 (by omega) (by omega) (by omega))
   have H7:=Lib.hid h7
   clear h7 ho7 C5 H6 K6 P6 J6 G6 X6x Y6 B6 p0 zp POP
   go_wp2_with (first|refine wpList_store_row rfl 31 (.tmp 8) (.tmp 75) rfl p n1.toArray rfl rfl 31 _ X7.out T1A.out TL.out TO.out ?_|refine wpList_store_row rfl 49 (.tmp 9) (.tmp 76) rfl (p+1) r1.toArray rfl rfl 49 _ (two_rows X7.out Y7.out (by omega) n1.toArray #[]).1 U1A.out UL.out UO.out ?_)
   have hrow:=two_rows X7.out Y7.out (by omega) n1.toArray r1.toArray
   have hsw:SwAt w _ F a ac b qc q p ms N.1 N.2:=⟨vs',(H7.out.kept hrow.2.1 (Tag.of_box X7.out) (by omega) (by decide) (by decide) (by decide)).kept hrow.2.2.1 (Tag.of_box hrow.1) (by omega) (by decide) (by decide) (by decide),(K7.out.kept hrow.2.1 (by simp;omega)).kept hrow.2.2.1 (by simp;omega),(J7.out.kept hrow.2.1 (by simp;omega)).kept hrow.2.2.1 (by simp;omega),(G7.out.kept hrow.2.1 (by simp;omega)).kept hrow.2.2.1 (by simp;omega),by rw[←HN1.out];exact hrow.2.2.2.1,by rw[←HR1'.out];exact hrow.2.2.2.2,((H7.out.kept hrow.2.1 (Tag.of_box X7.out) (by omega) (by decide) (by decide) (by decide)).kept hrow.2.2.1 (Tag.of_box hrow.1) (by omega) (by decide) (by decide) (by decide)).bw⟩
   clear hrow
   dsimp only[Act.put]
   go_meet
   rw[HGN.out]
   exact hsw
  ·as_aux_lemma=>
   have tk1:(op.kind==1)=false:=by simp[hkk]
   have tk12:(op.kind==12)=true:=by simp[hkk]
   have tk3:(op.kind==3)=false:=by simp[hkk]
   have tk10:(op.kind==10)=false:=by simp[hkk]
   have tk11:(op.kind==11)=false:=by simp[hkk]
   have hnb:opM s op (targetM op).1.toNat=tickM s op:=by simp[opM,hkk]
   have K6e:=Lib.hid (show BoxN w6 q 31 (mdCells F s).toArray by rw[←HMS.out];exact K6.out)
   have c4:=K6e.out.cell 4 (.int .i64 s.now) rfl
   have zq:=K6e.out.lt
   have p0:=POP.out.cell 0 (.int .i64 op.kind) rfl
   have p11:=POP.out.cell 11 (.int .i64 op.now) rfl
   have zp:=POP.out.lt
   by_cases hpast:op.now<s.now
   ·have tp:decide (op.now<s.now)=true:=decide_eq_true hpast
    have hM2:=Lib.hid (show M=(s,{noRp with err:=18},0) by rw[hM.out,hnb];unfold tickM;rw[if_pos hpast];simp)
    clear hnb HR0 HR1 HT0 hM hkk hpast
    have S9:=rp_S (ms:=rpCells {noRp with err:=18}) rfl
    have O9:=rp_o (ms:=rpCells {noRp with err:=18}) rfl
    go_wp2_with (first|refine wpList_load_mid rfl 31 (.tmp 2) rfl q 0 rfl ms _ K6.out.range2 Tryz.underlying31 rfl S1.out ?_|refine wpList_store_row rfl 31 (.tmp 4) (.tmp 54) rfl (q+1+1) ms.toArray rfl rfl 31 _ J6.out S1A.out L1.out.symm O1.out ?_|refine wpList_store_row rfl 49 (.tmp 5) (.tmp 55) rfl (q+1+1+1) (rpCells {noRp with err:=18}).toArray rfl rfl 49 _ (two_rows J6.out G6.out (by omega) ms.toArray #[]).1 S9.out rfl O9.out ?_)
    have hrow:=two_rows J6.out G6.out (by omega) ms.toArray (rpCells {noRp with err:=18}).toArray
    refine at_world (fun Y=>Below w.heap.size w Y∧BoxN Y (q+1+1) 31 ms.toArray∧BoxN Y (q+1+1+1) 49 (rpCells {noRp with err:=18}).toArray) ⟨(B6.out.grown hrow.2.1 B6.out.size (fun k hk=>by injection hk with hk;omega)).grown hrow.2.2.1 (by have:=B6.out.size;simp;omega) (fun k hk=>by injection hk with hk;omega),hrow.2.2.2.1,hrow.2.2.2.2⟩ fun Y hY=> ?_
    clear hrow
    have k3:=hY.2.1
    have k4:=hY.2.2
    rw[HMS.out] at k3
    have gg:=k3.x7
    have uu:=k4.x9
    clear k3 k4
    exact bodyPost_ret (v:=.tuple #[mdV F s,RpV {noRp with err:=18},.int .i64 (0)]) (by simp[results,Tryz.results17,go_sem,mdV,RpV,gg,uu]) rfl (show MDoPost lo w s op _ _ from⟨F,by rw[HDO.out,hM2.out],hY.1,by rw[HDO.out,hM2.out];exact HK.out.up (Loose.of hY.1)⟩)
   have tp:decide (op.now<s.now)=false:=decide_eq_false hpast
   have HGN:=Lib.hid (show opM s op (targetM op).1.toNat=((srt (tillAt {s with now:=op.now}) (dueM {s with now:=op.now})).foldl (fun s x=>expireM s x.toNat) {s with now:=op.now},noRp) by rw[hnb];unfold tickM;rw[if_neg hpast])
   have c5:=rTick_any H6.out op.now HO.out.2.2.2.2.2.2.2.2 ⟨HOK.out.ve,by have:=HOK.out.now;simp only;omega,HOK.out.seats,HOK.out.qs,HOK.out.each,HOK.out.lists⟩
   generalize(srt (tillAt {s with now:=op.now}) (dueM {s with now:=op.now})).foldl (fun s x=>expireM s x.toNat) {s with now:=op.now}=N1 at*
   obtain⟨nx,hnx⟩:∃nx:List Value,nx=mdCells (frM F.V F.vc a ac b qc) s:=⟨_,rfl⟩
   have X6x:=Lib.hid (show BoxN w6 p 31 nx.toArray by rw[hnx];exact X6.out)
   have SX:=md_s hnx
   obtain⟨n1,hn1⟩:∃n1:List Value,n1=mdCells (frM F.V F.vc a ac b qc) N1:=⟨_,rfl⟩
   have C5:=Lib.hid (show Calls Tryz.prog 38 #[.agg nx.toArray,.int .i64 op.now] w6 fun e w'=> ∃vs',e=.returned (.agg n1.toArray)∧RMem w w' F.V F.vc a ac b qc vs' N1∧Only3 a a b w6 w' by
    rw[hnx,hn1]
    exact c5)
   have T1A:=md_S hn1
   have TL:=Lib.hid (show nx.toArray.size=n1.toArray.size by rw[hn1,hnx];rfl)
   have TO:=md_o hn1
   have HN1:=Lib.hid hn1
   clear hnx hn1 c5 HR0 HR1 HT0 hM X6 hkk hnb hpast
   go_wp2_with (refine wpList_load_mid rfl 31 (.tmp 8) rfl p 0 rfl nx _ X6x.out.range2 Tryz.underlying31 rfl SX.out ?_)
   refine C5.out.mono ?_
   rintro e w7 ⟨vs',rfl,h7,ho7⟩
   have K7:=Lib.hid (K6.out.only ho7 (by omega) (by omega) (by omega))
   have J7:=Lib.hid (J6.out.only ho7 (by omega) (by omega) (by omega))
   have G7:=Lib.hid (G6.out.only ho7 (by omega) (by omega) (by omega))
   have X7:=Lib.hid (X6x.out.only ho7 (by omega) (by omega) (by omega))
   have Y7:=Lib.hid (Y6.out.only ho7 (by omega) (by omega) (by omega))
   have H7:=Lib.hid h7
   clear h7 ho7 C5 H6 K6 P6 J6 G6 X6x Y6 B6 p0 p11 zp c4 zq K6e POP
   go_wp2_with (refine wpList_store_row rfl 31 (.tmp 8) (.tmp 59) rfl p n1.toArray rfl rfl 31 _ X7.out T1A.out TL.out TO.out ?_)
   have hrow:=grownBy_setRow X7.out n1.toArray
   have hh:=H7.out.kept hrow.1 (Tag.of_box X7.out) (by omega) (by decide) (by decide) (by decide)
   have hsw:SwAt w _ F a ac b qc q p ms N1 noRp:=⟨vs',hh,K7.out.kept hrow.1 (by simp;omega),J7.out.kept hrow.1 (by simp;omega),G7.out.kept hrow.1 (by simp;omega),by rw[←HN1.out];exact hrow.2,Y7.out.kept hrow.1 (by simp),hh.bw⟩
   clear hrow hh
   dsimp only[Act.put]
   go_meet
   rw[HGN.out]
   exact hsw
 case rest=>
  obtain⟨vs',h7⟩:=hcut
  rename World=>w7
  have H7:=Lib.hid h7.1
  have K7:=Lib.hid h7.2.1
  have J7:=Lib.hid h7.2.2.1
  have G7:=Lib.hid h7.2.2.2.1
  have X7:=Lib.hid h7.2.2.2.2.1
  have Y7:=Lib.hid h7.2.2.2.2.2.1
  have B7:=Lib.hid h7.2.2.2.2.2.2
  have HVE:=Lib.hid (opM_same s op (targetM op).1.toNat).1
  clear h7 H6 K6 P6 J6 G6 X6 Y6 B6 hkk HR0 HR1 HT0 POP
  generalize opM s op (targetM op).1.toNat=N at*
  obtain⟨M1,M2⟩:=N
  simp only at hM H7 X7 Y7 HVE
  have y0:=Y7.out.cell 0 (.int .i64 M2.err) rfl
  have zy:=Y7.out.lt
  by_cases he:M2.err=0
  case neg=>as_aux_lemma=>
   have t1:(M2.err !=0)=true:=by simpa using he
   have hM2:=Lib.hid (show M=(s,M2,0) by rw[hM.out,if_pos he])
   clear hM he
   have S8:=rp_s (ms:=rpCells M2) rfl
   have S9:=rp_S (ms:=rpCells M2) rfl
   have O9:=rp_o (ms:=rpCells M2) rfl
   go_upto_region 25 with fail
   clear y0 zy
   refine wp_region_held (S:=fun X=>BoxN X q 31 ms.toArray∧BoxN X (p+1) 49 (rpCells M2).toArray) (by kernel_rfl) ?_
   refine at_world (fun X=>(BoxN X q 31 ms.toArray∧BoxN X (p+1) 49 (rpCells M2).toArray)∧RMem w X F.V F.vc a ac b qc vs' M1∧BoxN X (q+1+1) 31 #[.int .i64 0,.int .i64 0,.int .i64 0,.slice none 0 0,.int .i64 0,.slice none 0 0,.slice none 0 0]∧BoxN X (q+1+1+1) 49 #[.int .i64 0,.int .i64 0,.int .i64 0,.int .i64 0,.int .u32 0,.int .u32 0,.int .u64 0,.int .u64 0,.int .i64 0]∧Below w.heap.size w X) ⟨⟨K7.out,Y7.out⟩,H7.out.up (bdd (Below.refl _ _)),J7.out,G7.out,B7.out.trans (bdd (Below.refl _ _))⟩ fun w12 h12=> ?_
   have HSS:=h12.1
   have H12:=Lib.hid h12.2.1
   have J12:=Lib.hid h12.2.2.1
   have G12:=Lib.hid h12.2.2.2.1
   have B12:=Lib.hid h12.2.2.2.2
   clear h12 H7 K7 J7 G7 X7 Y7 B7
   refine takeTo (i:=0) (v:=.agg ms.toArray) (some 80) rfl rfl (by decide+kernel) (by decide+kernel) (by decide+kernel) (fun _ _ _ h=>h) (yieldsIf_load_mid rfl 31 (.tmp 2) rfl q 0 rfl ms _ (fun W hS=>hS.1.range2) Tryz.underlying31 rfl S1.out) HSS ?_
   refine takeTo (i:=1) (v:=.agg (rpCells M2).toArray) (some 81) rfl rfl (by decide+kernel) (by decide+kernel) (by decide+kernel) (fun _ _ _ h=>h) (yieldsIf_load_mid rfl 49 (.tmp 9) rfl (p+1) 0 rfl (rpCells M2) _ (fun W hS=>hS.2.range2) Tryz.underlying49 rfl S8.out) HSS ?_
   refine wpAnyH_all (rs:=[2]) (by decide+kernel) (by simp) fun j hj=> ?_
   obtain rfl:j=2:=by simpa using hj
   clear hj
   refine heldOp rfl fun K hK=> ?_
   go_wp2_with (refine wpList_store_row rfl 31 (.tmp 4) (.tmp 80) rfl (q+1+1) ms.toArray rfl rfl 31 _ J12.out S1A.out L1.out.symm O1.out ?_)
   have hrw:=grownBy_setRow J12.out ms.toArray
   refine hK.out _ _ ⟨⟨HSS.1.kept hrw.1 (by simp;omega),HSS.2.kept hrw.1 (by simp;omega)⟩, ?_⟩
   clear hK K
   refine wpAnyH_all (rs:=[3]) (by decide+kernel) (by simp) fun j hj=> ?_
   obtain rfl:j=3:=by simpa using hj
   clear hj
   refine heldOp rfl fun K hK=> ?_
   go_wp2_with (refine wpList_store_row rfl 49 (.tmp 5) (.tmp 81) rfl (q+1+1+1) (rpCells M2).toArray rfl rfl 49 _ (two_rows J12.out G12.out (by omega) ms.toArray #[]).1 S9.out rfl O9.out ?_)
   have hro2:=two_rows J12.out G12.out (by omega) ms.toArray (rpCells M2).toArray
   have hS2:=And.intro ((HSS.1.kept hrw.1 (by simp;omega)).kept hro2.2.2.1 (by simp;omega)) ((HSS.2.kept hrw.1 (by simp;omega)).kept hro2.2.2.1 (by simp;omega))
   refine hK.out _ _ ⟨hS2, ?_⟩
   clear hK K hrw hro2
   refine wpAnyH_all (rs:=[4]) (by decide+kernel) (by simp) fun j hj=> ?_
   obtain rfl:j=4:=by simpa using hj
   clear hj
   refine heldOp rfl fun K hK=> ?_
   go_wp2_with fail
   refine hK.out _ _ ⟨hS2, ?_⟩
   clear hK K hS2
   refine wpAnyH_done (by decide+kernel) ?_ _
   go_wp2_with fail
   have hrow:=two_rows J12.out G12.out (by omega) ms.toArray (rpCells M2).toArray
   refine at_world (fun Y=>Below w.heap.size w Y∧BoxN Y (q+1+1) 31 ms.toArray∧BoxN Y (q+1+1+1) 49 (rpCells M2).toArray) ⟨(B12.out.grown hrow.2.1 B12.out.size (fun k hk=>by injection hk with hk;omega)).grown hrow.2.2.1 (by have:=B12.out.size;simp;omega) (fun k hk=>by injection hk with hk;omega),hrow.2.2.2.1,hrow.2.2.2.2⟩ fun Y hY=> ?_
   clear hrow
   have k3:=hY.2.1
   have k4:=hY.2.2
   rw[HMS.out] at k3
   have gg:=k3.x7
   have uu:=k4.x9
   clear k3 k4
   exact bodyPost_ret (v:=.tuple #[mdV F s,RpV M2,.int .i64 (0)]) (by simp[results,Tryz.results17,go_sem,mdV,RpV,rpCells,gg,uu]) rfl (show MDoPost lo w s op _ _ from⟨F,by rw[HDO.out,hM2.out],hY.1,by rw[HDO.out,hM2.out];exact HK.out.up (Loose.of hY.1)⟩)
  have t1:(M2.err !=0)=false:=by simpa using he
  have hM2:=Lib.hid (show M=(M1,M2,0) by rw[hM.out,if_neg (by simpa using he)])
  clear hM he
  obtain⟨mt,hmt⟩:∃mt:List Value,mt=mdCells (frM F.V F.vc a ac b qc) M1:=⟨_,rfl⟩
  have HMT:=Lib.hid hmt
  have X7x:=Lib.hid (show BoxN w7 p 31 mt.toArray by rw[hmt];exact X7.out)
  have T1:=md_s hmt
  have T1A:=md_S hmt
  have TL:=md_l hmt
  have TO:=md_o hmt
  clear hmt
  have S8:=rp_s (ms:=rpCells M2) rfl
  have S9:=rp_S (ms:=rpCells M2) rfl
  have O9:=rp_o (ms:=rpCells M2) rfl
  go_upto_region 26 with fail
  clear y0 zy
  refine wp_region_held (S:=fun X=>BoxN X p 31 mt.toArray∧BoxN X (p+1) 49 (rpCells M2).toArray) (by kernel_rfl) ?_
  refine at_world (fun X=>(BoxN X p 31 mt.toArray∧BoxN X (p+1) 49 (rpCells M2).toArray)∧RMem w X F.V F.vc a ac b qc vs' M1∧BoxN X (q+1+1) 31 #[.int .i64 0,.int .i64 0,.int .i64 0,.slice none 0 0,.int .i64 0,.slice none 0 0,.slice none 0 0]∧BoxN X (q+1+1+1) 49 #[.int .i64 0,.int .i64 0,.int .i64 0,.int .i64 0,.int .u32 0,.int .u32 0,.int .u64 0,.int .u64 0,.int .i64 0]∧Below w.heap.size w X) ⟨⟨X7x.out,Y7.out⟩,H7.out.up (bdd (Below.refl _ _)),J7.out,G7.out,B7.out.trans (bdd (Below.refl _ _))⟩ fun w12 h12=> ?_
  have HSS:=h12.1
  have H12:=Lib.hid h12.2.1
  have J12:=Lib.hid h12.2.2.1
  have G12:=Lib.hid h12.2.2.2.1
  have B12:=Lib.hid h12.2.2.2.2
  clear h12 H7 K7 J7 G7 X7 Y7 B7 X7x
  refine takeTo (i:=0) (v:=.agg mt.toArray) (some 82) rfl rfl (by decide+kernel) (by decide+kernel) (by decide+kernel) (fun _ _ _ h=>h) (yieldsIf_load_mid rfl 31 (.tmp 8) rfl p 0 rfl mt _ (fun W hS=>hS.1.range2) Tryz.underlying31 rfl T1.out) HSS ?_
  refine takeTo (i:=1) (v:=.agg (rpCells M2).toArray) (some 83) rfl rfl (by decide+kernel) (by decide+kernel) (by decide+kernel) (fun _ _ _ h=>h) (yieldsIf_load_mid rfl 49 (.tmp 9) rfl (p+1) 0 rfl (rpCells M2) _ (fun W hS=>hS.2.range2) Tryz.underlying49 rfl S8.out) HSS ?_
  refine wpAnyH_all (rs:=[2]) (by decide+kernel) (by simp) fun j hj=> ?_
  obtain rfl:j=2:=by simpa using hj
  clear hj
  refine heldOp rfl fun K hK=> ?_
  go_wp2_with (refine wpList_store_row rfl 31 (.tmp 4) (.tmp 82) rfl (q+1+1) mt.toArray rfl rfl 31 _ J12.out T1A.out TL.out.symm TO.out ?_)
  have hrw:=grownBy_setRow J12.out mt.toArray
  refine hK.out _ _ ⟨⟨HSS.1.kept hrw.1 (by simp;omega),HSS.2.kept hrw.1 (by simp;omega)⟩, ?_⟩
  clear hK K
  refine wpAnyH_all (rs:=[3]) (by decide+kernel) (by simp) fun j hj=> ?_
  obtain rfl:j=3:=by simpa using hj
  clear hj
  refine heldOp rfl fun K hK=> ?_
  go_wp2_with (refine wpList_store_row rfl 49 (.tmp 5) (.tmp 83) rfl (q+1+1+1) (rpCells M2).toArray rfl rfl 49 _ (two_rows J12.out G12.out (by omega) mt.toArray #[]).1 S9.out rfl O9.out ?_)
  have hro2:=two_rows J12.out G12.out (by omega) mt.toArray (rpCells M2).toArray
  have hS2:=And.intro ((HSS.1.kept hrw.1 (by simp;omega)).kept hro2.2.2.1 (by simp;omega)) ((HSS.2.kept hrw.1 (by simp;omega)).kept hro2.2.2.1 (by simp;omega))
  refine hK.out _ _ ⟨hS2, ?_⟩
  clear hK K hrw hro2
  refine wpAnyH_all (rs:=[4]) (by decide+kernel) (by simp) fun j hj=> ?_
  obtain rfl:j=4:=by simpa using hj
  clear hj
  refine heldOp rfl fun K hK=> ?_
  go_wp2_with fail
  refine hK.out _ _ ⟨hS2, ?_⟩
  clear hK K hS2
  refine wpAnyH_done (by decide+kernel) ?_ _
  go_wp2_with fail
  have hrow:=two_rows J12.out G12.out (by omega) mt.toArray (rpCells M2).toArray
  refine at_world (fun Y=>RMem w Y F.V F.vc a ac b qc vs' M1∧Below w.heap.size w Y∧BoxN Y (q+1+1) 31 mt.toArray∧BoxN Y (q+1+1+1) 49 (rpCells M2).toArray) ⟨(H12.out.kept hrow.2.1 (Tag.of_box J12.out) (by omega) (by decide) (by decide) (by decide)).kept hrow.2.2.1 (Tag.of_box hrow.1) (by omega) (by decide) (by decide) (by decide),(B12.out.grown hrow.2.1 B12.out.size (fun k hk=>by injection hk with hk;omega)).grown hrow.2.2.1 (by have:=B12.out.size;simp;omega) (fun k hk=>by injection hk with hk;omega),hrow.2.2.2.1,hrow.2.2.2.2⟩ fun Y hY=> ?_
  clear hrow
  have k3:=hY.2.2.1
  have k4:=hY.2.2.2
  rw[HMT.out] at k3
  have gg:=k3.x7
  have uu:=k4.x9
  clear k3 k4
  exact bodyPost_ret (v:=.tuple #[mdV (frM F.V F.vc a ac b qc) M1,RpV M2,.int .i64 0]) (by simp[results,Tryz.results17,go_sem,mdV,RpV,rpCells,gg,uu]) rfl (show MDoPost lo w s op _ _ from⟨frM F.V F.vc a ac b qc,by rw[HDO.out,hM2.out],hY.2.1,by rw[HDO.out,hM2.out];exact hY.1.keep HK.out hY.2.1 HVE.out⟩)
end Go.Proofs.YtlckmjiioohcmaaGreatDoor

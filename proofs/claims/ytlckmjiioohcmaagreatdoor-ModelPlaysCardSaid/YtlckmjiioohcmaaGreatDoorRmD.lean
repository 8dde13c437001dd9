/-
  Walk of groundlingref23.block. Conditions: as the theorem says.
-/
import Derived.Test.YtlckmjiioohcmaaGreatDoorRmC
namespace Go.Proofs.YtlckmjiioohcmaaGreatDoor
open Go.RowKit
def ROp (w0 W:World) (V:Option Addr) (vc a ac b qc:Nat) (M:Md×MRp) (e:Ending) (w':World):Prop:=
 ∃vs',e=.returned (.tuple #[mdV (frM V vc a ac b qc) M.1,RpV M.2])∧RMem w0 w' V vc a ac b qc vs' M.1∧Only3 a a b W w'
theorem bo_one (w:World) (g:Nat) (v:Bool) (hg:g=w.heap.size):Sl boR (w.alloc (.cells #[.bool v] 4)) (.slice (some ⟨g,0,none⟩) 1 1) [v]:=
 (Own.lit (R:=boR) (B:=0) (e:=4) (w:=w) (cells:=[.bool v]) (xs:=[v]) hg (Nat.zero_le _) (Rep.many_one (R:=boR) rfl) rfl (by simp)).sl
set_option maxHeartbeats 8000000 in
set_option maxRecDepth 100000 in
theorem rBlock_any {w0 W:World} {V:Option Addr} {vc a ac b qc:Nat} {vs:List Value} {s:Md} {op:MOp} (h:RMem w0 W V vc a ac b qc vs s) (hlen:s.seats.length≤4096) (ho:OpOk op):
 Calls Tryz.prog 39 #[mdV (frM V vc a ac b qc) s,.agg (opCells op).toArray] W (ROp w0 W V vc a ac b qc (blockM s op)):=by
 have hM:=Lib.hid (show blockM s op=if(adBestM s.ve (freeM s) op.section_ op.n).2≠0 then(s,{noRp with err:=(adBestM s.ve (freeM s) op.section_ op.n).2})
  else(holdsM s op.owner (untilM s s.ve.ttl) (adBestM s.ve (freeM s) op.section_ op.n).1.toNat op.n.toNat,{noRp with seat:=(adBestM s.ve (freeM s) op.section_ op.n).1,n:=op.n,deadline:=untilM s s.ve.ttl}) from rfl)
 have C1:=Lib.hid (fun X (hb:Below W.heap.size W X) (F:Option Addr) (fc:Nat) (hF:Sl boR X (.slice F s.seats.length fc) (freeM s))=>show Calls Tryz.prog 73 #[.agg #[.int .i64 s.ve.shards,.int .i64 s.ve.ttl,.int .i64 s.ve.session,.slice V s.ve.secs.length vc],.slice F s.seats.length fc,.int .i64 op.section_,.int .i64 op.n] X fun e w'=>e=.returned (.tuple #[.int .i64 (adBestM s.ve (freeM s) op.section_ op.n).1,.int .i64 (adBestM s.ve (freeM s) op.section_ op.n).2])∧Below X.heap.size X w' by
  have hl:(freeM s).length=s.seats.length:=by simp[freeM]
  have h2:=rAdBest_any ((h.ve.up h.bw).up hb) (F:=F) (fc:=fc) (fr:=freeM s) (by rw[hl];exact hF) op.section_ op.n
  rw[hl] at h2
  exact h2)
 have HBO:=Lib.hid (fun h=> @adBestM_ok s.ve (freeM s) op.section_ op.n h)
 have HFL:=Lib.hid (show(freeM s).length=s.seats.length by simp[freeM])
 generalize blockM s op=MM at hM⊢
 generalize adBestM s.ve (freeM s) op.section_ op.n=BB at*
 obtain⟨B1,B2⟩:=BB
 simp only at hM C1 HBO
 have H:=Lib.hid h
 have HO:=Lib.hid ho
 have hw0s:=h.bw.size
 clear h ho
 obtain⟨os,hos⟩:∃os:List Value,os=opCells op:=⟨_,rfl⟩
 have HOS:=Lib.hid hos
 rw[←hos]
 have hcon:(mdV (frM V vc a ac b qc) s)=.agg (mdCells (frM V vc a ac b qc) s).toArray:=rfl
 unfold mdV frM
 simp only
 clear hcon
 rw[hos]
 unfold opCells
 go_enter Tryz.func39,Tryz.ntmps39
 go_upto_region 1 with fail
 obtain⟨q,hqq⟩:∃q,W.heap.size=q:=⟨_,rfl⟩
 rw[hqq]
 refine at_world (fun X=>Below W.heap.size W X∧BoxN X q 31 (mdCells (frM V vc a ac b qc) s).toArray∧BoxN X (q+1) 46 (opCells op).toArray∧BoxN X (q+1+1) 31 #[.int .i64 0,.int .i64 0,.int .i64 0,.slice none 0 0,.int .i64 0,.slice none 0 0,.slice none 0 0]∧BoxN X (q+1+1+1) 49 #[.int .i64 0,.int .i64 0,.int .i64 0,.int .i64 0,.int .u32 0,.int .u32 0,.int .u64 0,.int .u64 0,.int .i64 0]) (four_boxes hqq _ _ _ _ _ _ _ _) fun w1 hw1=> ?_
 have B1':=Lib.hid hw1.1
 have K1:=Lib.hid hw1.2.1
 have P1:=Lib.hid hw1.2.2.1
 have J1:=Lib.hid hw1.2.2.2.1
 have G1:=Lib.hid hw1.2.2.2.2
 have H1:=Lib.hid (H.out.up hw1.1)
 have O1':=Lib.hid (Only3.of a a b hw1.1)
 clear hw1 H
 go_wp2_with fail
 go_loopw [7,6] (fun iv v wr=> ∃i:Nat,iv=.int .i64 (i:Int)∧i≤s.seats.length∧Hid (Own boR 4 W.heap.size wr v ((freeM s).take i))∧Hid (RMem w0 wr V vc a ac b qc vs s)∧Hid (BoxN wr q 31 (mdCells (frM V vc a ac b qc) s).toArray)∧Hid (BoxN wr (q+1) 46 (opCells op).toArray)∧Hid (BoxN wr (q+1+1) 31 #[.int .i64 0,.int .i64 0,.int .i64 0,.slice none 0 0,.int .i64 0,.slice none 0 0,.slice none 0 0])∧Hid (BoxN wr (q+1+1+1) 49 #[.int .i64 0,.int .i64 0,.int .i64 0,.int .i64 0,.int .u32 0,.int .u32 0,.int .u64 0,.int .u64 0,.int .i64 0])∧Hid (Below W.heap.size W wr)) (fun iv _ _=>s.seats.length-(intOf iv).toNat)
 case atStart=>exact⟨0,rfl,Nat.zero_le _,Lib.hid (Own.nil _ _ _ _),H1,K1,P1,J1,G1,B1'⟩
 case round=>
  obtain⟨i,rfl,hi,HD,HR,HK,HP,HJ,HG,HB⟩:=hrel
  rename World=>wr
  clear H1 K1 P1 J1 G1 B1' O1'
  have c5:=HK.out.cell 5 (.slice (some ⟨a,0,none⟩) s.seats.length ac) rfl
  have zq:=HK.out.lt
  have hi0:(0:Int)≤(i:Int):=by omega
  have hsz:=HB.out.size
  by_cases hlt:i<s.seats.length
  case pos=>as_aux_lemma=>
   clear hM C1 HBO
   have t0:decide ((i:Int)<(s.seats.length:Int))=true:=decide_eq_true (by omega)
   have hi1:(i:Int)<(s.seats.length:Int):=by omega
   have ni:IntKind.i64.wrap ((i:Int)+1)=(i:Int)+1:=IntWalk.i64_in _ (by omega)
   obtain⟨d0,d1,d2,d3,d4,hf,_⟩:=HR.out.seat (i:=i) hlt
   have za:=HR.out.aB.2
   have HX:=Lib.hid (show(freeM s).take (i+1)=(freeM s).take i++[s.seats[i].state==0] by
    rw[List.take_succ_eq_append_getElem (by rw[HFL.out];exact hlt)]
    simp[freeM])
   have hdl:((freeM s).take i).length≤4096:=by rw[List.length_take];omega
   generalize s.seats[i].state=st at*
   clear hf d1 d2 d3 d4
   go_wp2_with (at_builtin;refine wpList_append_sl _ rfl (.tmp 19) (.tmp 27) 138 rfl boR W.heap.size 4 _ 1 Tryz.underlying138 infoBo rfl (by decide) _ ((freeM s).take i) rfl (HD.out.up (ba _ _)) _ [st==0] rfl (bo_one _ _ _ rfl) (by rw[List.length_singleton];omega) (by decide) (by simp[World.size_alloc];omega) (fun w' _ cs y h=>boR_flat _ _ _ _ h) ?_;intro v1 w7 hown1 hg1 hat1)
   have hd:=HD.out.up (ba wr (.cells #[.bool (st==0)] 4))
   have hg7:(wr.alloc (.cells #[.bool (st==0)] 4)).grownBy w7 u6.ownBlock:=hg1
   exact⟨⟨i+1,by go_num,by omega,Lib.hid (by rw[HX.out];exact hown1),Lib.hid ((HR.out.up (ba _ _)).kept_own hd hg7 hw0s (by decide) (by decide) (by decide)),Lib.hid ((HK.out.alloc _).kept hg7 (fun e=>hd.not_box (HK.out.alloc _) (by decide) e.symm)),Lib.hid ((HP.out.alloc _).kept hg7 (fun e=>hd.not_box (HP.out.alloc _) (by decide) e.symm)),Lib.hid ((HJ.out.alloc _).kept hg7 (fun e=>hd.not_box (HJ.out.alloc _) (by decide) e.symm)),Lib.hid ((HG.out.alloc _).kept hg7 (fun e=>hd.not_box (HG.out.alloc _) (by decide) e.symm)),Lib.hid ((bal HB.out).grown hg7 (by simp[World.size_alloc];omega) (fun z hz=>(HD.out.lt z hz).1))⟩,by simp[intOf];omega⟩
  obtain rfl:i=s.seats.length:=by omega
  have t0:decide ((s.seats.length:Int)<(s.seats.length:Int))=false:=by simp
  have hd:=HD.out
  rw[show(freeM s).take s.seats.length=freeM s by rw[←HFL.out,List.take_length]] at hd
  obtain⟨Af,fc,rfl,_,_,hd2⟩:=hd.form
  rw[HFL.out] at hd2⊢
  have HD2:=Lib.hid hd2.sl
  clear hd hd2 HD
  have c0:=HK.out.cell 0 (.int .i64 s.ve.shards) rfl
  have c1:=HK.out.cell 1 (.int .i64 s.ve.ttl) rfl
  have c2:=HK.out.cell 2 (.int .i64 s.ve.session) rfl
  have c3:=HK.out.cell 3 (.slice V s.ve.secs.length vc) rfl
  have p4:=HP.out.cell 4 (.int .i64 op.section_) rfl
  have p5:=HP.out.cell 5 (.int .i64 op.n) rfl
  have zp:=HP.out.lt
  go_wp2_with fail
  refine(C1.out _ HB.out _ _ HD2.out).mono ?_
  rintro e w2 ⟨rfl,hb2⟩
  have H2:=Lib.hid (HR.out.up hb2)
  have K2:=Lib.hid (HK.out.later hb2)
  have P2:=Lib.hid (HP.out.later hb2)
  have J2:=Lib.hid (HJ.out.later hb2)
  have G2:=Lib.hid (HG.out.later hb2)
  have B2':=Lib.hid (HB.out.trans (hb2.mono HB.out.size))
  clear hb2 HR HK HP HJ HG HB HD2 C1 c0 c1 c2 c3 p4 p5 zp c5 zq hlt
  have hqW:W.heap.size≤q:=by omega
  by_cases hB:B2=0
  case neg=>as_aux_lemma=>
   have t1:(B2 !=0)=true:=by simpa using hB
   have hM1:=Lib.hid (show MM=(s,{noRp with err:=B2}) by rw[hM.out,if_pos hB])
   clear hB hM HBO
   obtain⟨ms,hms⟩:∃ms:List Value,ms=mdCells (frM V vc a ac b qc) s:=⟨_,rfl⟩
   have HMS:=Lib.hid hms
   have KM:=Lib.hid (show BoxN _ q 31 ms.toArray by rw[hms];exact K2.out)
   have S1:=md_s hms
   have S1A:=md_S hms
   have L1:=md_l hms
   have O1:=md_o hms
   clear hms
   have S9:=rp_S (ms:=rpCells {noRp with err:=B2}) rfl
   have O9:=rp_o (ms:=rpCells {noRp with err:=B2}) rfl
   go_wp2_with (first|refine wpList_load_mid rfl 31 (.tmp 2) rfl q 0 rfl ms _ KM.out.range2 Tryz.underlying31 rfl S1.out ?_|refine wpList_store_row rfl 31 (.tmp 4) (.tmp 42) rfl (q+1+1) ms.toArray rfl rfl 31 _ J2.out S1A.out L1.out.symm O1.out ?_|refine wpList_store_row rfl 49 (.tmp 5) (.tmp 44) rfl (q+1+1+1) (rpCells {noRp with err:=B2}).toArray rfl rfl 49 _ (two_rows J2.out G2.out (by omega) ms.toArray #[]).1 S9.out rfl O9.out ?_)
   have hrow:=two_rows J2.out G2.out (by omega) ms.toArray (rpCells {noRp with err:=B2}).toArray
   refine at_world (fun Y=>RMem w0 Y V vc a ac b qc vs s∧BoxN Y (q+1+1) 31 ms.toArray∧BoxN Y (q+1+1+1) 49 (rpCells {noRp with err:=B2}).toArray∧Only3 a a b W Y) ⟨(H2.out.kept hrow.2.1 (Tag.of_box J2.out) (by omega) (by decide) (by decide) (by decide)).kept hrow.2.2.1 (Tag.of_box hrow.1) (by omega) (by decide) (by decide) (by decide),hrow.2.2.2.1,hrow.2.2.2.2,((Only3.of a a b B2'.out).new hrow.2.1 (by omega)).new hrow.2.2.1 (by omega)⟩ fun Y hY=> ?_
   have k3:=hY.2.1
   have k4:=hY.2.2.1
   have hR:=hY.1
   have hO:=hY.2.2.2
   clear hY hrow
   rw[HMS.out] at k3
   have gg:=k3.x7
   have uu:=k4.x9
   clear k3 k4
   exact bodyPost_ret (v:=.tuple #[mdV (frM V vc a ac b qc) s,RpV {noRp with err:=B2}]) (by simp[results,Tryz.results39,go_sem,mdV,RpV,gg,uu]) rfl (show ROp w0 W V vc a ac b qc MM _ _ from⟨vs,by rw[hM1.out],by rw[hM1.out];exact hR,hO⟩)
  subst hB
  obtain⟨hn,hb0,hbn⟩:=HBO.out rfl
  replace hM:=Lib.hid (show MM=(holdsM s op.owner (untilM s s.ve.ttl) B1.toNat op.n.toNat,{noRp with seat:=B1,n:=op.n,deadline:=untilM s s.ve.ttl}) by rw[hM.out,if_neg (by simp)])
  rw[HFL.out] at hbn
  obtain⟨f,rfl⟩:∃f:Nat,B1=(f:Int):=⟨B1.toNat,by omega⟩
  obtain⟨n,hnn⟩:∃n:Nat,op.n=(n:Int):=⟨op.n.toNat,by omega⟩
  have HNN:=Lib.hid hnn
  have hfn:f+n≤s.seats.length:=by omega
  have hn8:n≤8:=by omega
  have hMn:op.n.toNat=n:=by omega
  simp only[Int.toNat_natCast,hMn] at hM
  clear hn hb0 hbn HBO hnn hMn
  have c1:=K2.out.cell 1 (.int .i64 s.ve.ttl) rfl
  have zq:=K2.out.lt
  obtain⟨ms,hms⟩:∃ms:List Value,ms=mdCells (frM V vc a ac b qc) s:=⟨_,rfl⟩
  have HMS:=Lib.hid hms
  have KM:=Lib.hid (show BoxN w2 q 31 ms.toArray by rw[hms];exact K2.out)
  have S1:=md_s hms
  have C2:=Lib.hid (fun X=>show Calls Tryz.prog 37 #[.agg ms.toArray,.int .i64 s.ve.ttl] X fun e w'=>e=.returned (.int .i64 (untilM s s.ve.ttl))∧Below X.heap.size X w' by rw[hms];exact rUntil_any (frM V vc a ac b qc) s s.ve.ttl X H2.out.bn H2.out.bv.2.1)
  have HUB:=Lib.hid (show Bd (untilM s s.ve.ttl) from addT_bd _ _ H2.out.bn H2.out.bv.2.1)
  clear hms
  generalize untilM s s.ve.ttl=T at*
  go_wp2_with (refine wpList_load_mid rfl 31 (.tmp 2) rfl q 0 rfl ms _ KM.out.range2 Tryz.underlying31 rfl S1.out ?_)
  refine(C2.out _).mono ?_
  rintro e w3 ⟨rfl,hb3⟩
  have H3:=Lib.hid (H2.out.up hb3)
  have K3:=Lib.hid (K2.out.later hb3)
  have P3:=Lib.hid (P2.out.later hb3)
  have J3:=Lib.hid (J2.out.later hb3)
  have G3:=Lib.hid (G2.out.later hb3)
  have O3:=Lib.hid (Only3.of a a b (B2'.out.trans (hb3.mono B2'.out.size)))
  clear hb3 H2 K2 P2 J2 G2 B2' KM C2 c1 zq S1 HMS
  go_wp2_with fail
  go_loopw [11] (fun iv wr=> ∃(k:Nat) (vs:List Value),iv=.int .i64 ((f+k:Nat):Int)∧k≤n∧Hid (RMem w0 wr V vc a ac b qc vs (holdsM s op.owner T f k))∧Hid (BoxN wr q 31 (mdCells (frM V vc a ac b qc) s).toArray)∧Hid (BoxN wr (q+1) 46 (opCells op).toArray)∧Hid (BoxN wr (q+1+1) 31 #[.int .i64 0,.int .i64 0,.int .i64 0,.slice none 0 0,.int .i64 0,.slice none 0 0,.slice none 0 0])∧Hid (BoxN wr (q+1+1+1) 49 #[.int .i64 0,.int .i64 0,.int .i64 0,.int .i64 0,.int .u32 0,.int .u32 0,.int .u64 0,.int .u64 0,.int .i64 0])∧Hid (Only3 a a b W wr)) (fun iv _=>f+n-(intOf iv).toNat)
  case atStart=>exact⟨0,vs,rfl,Nat.zero_le _,H3,K3,P3,J3,G3,O3⟩
  case round=>
   obtain⟨k,vs',rfl,hk,HR,HK,HP,HJ,HG,HO3⟩:=hrel
   rename World=>wr
   clear H3 K3 P3 J3 G3 O3
   have p5:=HP.out.cell 5 (.int .i64 op.n) rfl
   rw[HNN.out] at p5
   have zp:=HP.out.lt
   have hsz:=HO3.out.size
   have nfn:IntKind.i64.wrap ((f:Int)+(n:Int))=(f:Int)+(n:Int):=IntWalk.i64_in _ (by omega)
   by_cases hkn:k<n
   case pos=>as_aux_lemma=>
    clear hM
    have t2:decide (((f+k:Nat):Int)<(f:Int)+(n:Int))=true:=decide_eq_true (by omega)
    obtain⟨e1,e2,e3,e4⟩:=holdsM_same s op.owner T f k
    have HHX:=Lib.hid (show holdsM s op.owner T f (k+1)=setM (holdsM s op.owner T f k) (f+k) (sxHold (seatAt (holdsM s op.owner T f k) (f+k)) op.owner T).1 from rfl)
    generalize hcx:holdsM s op.owner T f (k+1)=c' at*
    have HCX:=Lib.hid hcx
    clear hcx
    generalize holdsM s op.owner T f k=c at*
    obtain⟨i,hi⟩:∃i,f+k=i:=⟨_,rfl⟩
    rw[hi] at HHX t2⊢
    have hic:i<c.seats.length:=by omega
    have hi9:i≤4096:=by omega
    obtain⟨d0,d1,d2,d3,d4,hfs,hxo⟩:=HR.out.seat hic
    have hx:seatAt c i=c.seats[i]:=by simp[seatAt,hic]
    rw[hx] at HHX
    have C:=Lib.hid (fun X=>r16Hold_any c.seats[i] op.owner T X)
    have HRX:=Lib.hid (sxHold_ok (owner:=op.owner) (d:=T) hxo HO.out.2.1 HUB.out)
    have za:=HR.out.aB.2
    clear hx hxo hfs
    generalize c.seats[i]=x at*
    generalize hr:sxHold x op.owner T=R at*
    clear hr
    obtain⟨⟨r0,r1,r2,r3,r4⟩,re⟩:=R
    unfold sxV at C
    simp only at C HRX HHX
    have hi0:(0:Int)≤(i:Int):=by omega
    have hi1:(i:Int)<(s.seats.length:Int):=by omega
    have hix:(i:Int)≤4096:=by omega
    go_upto_region 13 with fail
    have g5:=gro_cell (HK.out.cell 5 (.slice (some ⟨a,0,none⟩) s.seats.length ac) rfl)
    have g1:=gro_cell (HP.out.cell 1 (.int .u32 op.owner) rfl)
    have s0:=gro_cell d0
    have s1:=gro_cell d1
    have s2:=gro_cell d2
    have s3:=gro_cell d3
    have s4:=gro_cell d4
    clear d0 d1 d2 d3 d4 p5 zp
    refine wp_region_gro_late 16 14 (by kernel_rfl) (by kernel_rfl) (fun _ _ _ _ _ h=>h) ?_
    simp only[List.take_succ_cons,List.take_zero,List.drop_succ_cons,List.drop_zero]
    repeat(go_big_quiet_step (first|(go_at_call 74;exact Calls.gro_of (C.out _))|fail))
    refine wpQuiet_nil ?_
    rintro _ ⟨pg,rfl⟩
    have hg:=gro_below wr pg
    have H10:=Lib.hid (HR.out.up hg)
    have K10:=Lib.hid (HK.out.later hg)
    have P10:=Lib.hid (HP.out.later hg)
    have J10:=Lib.hid (HJ.out.later hg)
    have G10:=Lib.hid (HG.out.later hg)
    have O10:=Lib.hid (HO3.out.trans (Only3.of a a b hg))
    clear g5 g1 s0 s1 s2 s3 s4 hg HR HK HP HJ HG HO3
    generalize gro wr pg=w10 at H10 K10 P10 J10 G10 O10⊢
    obtain⟨d0,d1,d2,d3,d4,hf,_⟩:=H10.out.seat hic
    have f0:=hf (i*5)
    have f1:=hf (i*5+1)
    have f2:=hf (i*5+2)
    have f3:=hf (i*5+3)
    have f4:=hf (i*5+4)
    have za:=H10.out.aB.2
    obtain⟨hs1,hs2⟩:=H10.out.set hic HRX.out
    simp only[putAt,sxCells] at hs1 hs2
    rw[←HHX.out] at hs1
    have hk5:=K10.out.kept hs2 (fun e=>(Tag.of_box K10.out).ne (Tag.of_own H10.out.ss) (by decide) (by injection e))
    have hp5:=P10.out.kept hs2 (fun e=>(Tag.of_box P10.out).ne (Tag.of_own H10.out.ss) (by decide) (by injection e))
    have hj5:=J10.out.kept hs2 (fun e=>(Tag.of_box J10.out).ne (Tag.of_own H10.out.ss) (by decide) (by injection e))
    have hg5:=G10.out.kept hs2 (fun e=>(Tag.of_box G10.out).ne (Tag.of_own H10.out.ss) (by decide) (by injection e))
    have ho5:=O10.out.trans (Only3.grown (g:=a) (a:=a) (b:=b) hs2 (.inl rfl))
    have ni:IntKind.i64.wrap ((i:Int)+1)=(i:Int)+1:=IntWalk.i64_in _ (by omega)
    clear hf HRX C HHX
    go_upto_region 12 with fail
    refine at_world (fun X=>RMem w0 X V vc a ac b qc vs' c'∧BoxN X q 31 (mdCells (frM V vc a ac b qc) s).toArray∧BoxN X (q+1) 46 (opCells op).toArray∧BoxN X (q+1+1) 31 #[.int .i64 0,.int .i64 0,.int .i64 0,.slice none 0 0,.int .i64 0,.slice none 0 0,.slice none 0 0]∧BoxN X (q+1+1+1) 49 #[.int .i64 0,.int .i64 0,.int .i64 0,.int .i64 0,.int .u32 0,.int .u32 0,.int .u64 0,.int .u64 0,.int .i64 0]∧Only3 a a b W X) ⟨hs1,hk5,hp5,hj5,hg5,ho5⟩ fun w11 h11=> ?_
    clear d0 d1 d2 d3 d4 f0 f1 f2 f3 f4 za hs1 hs2 hk5 hp5 hj5 hg5 ho5 H10 K10 P10 J10 G10 O10
    have H11:=Lib.hid h11.1
    have K11:=Lib.hid h11.2.1
    have P11:=Lib.hid h11.2.2.1
    have J11:=Lib.hid h11.2.2.2.1
    have G11:=Lib.hid h11.2.2.2.2.1
    have O11:=Lib.hid h11.2.2.2.2.2
    clear h11
    go_wp2_with fail
    exact⟨⟨k+1,vs',by rw[←hi];go_num,by omega,by rw[HCX.out];exact H11,K11,P11,J11,G11,O11⟩,by rw[←hi];simp[intOf];omega⟩
   obtain rfl:k=n:=by omega
   have t2:decide (((f+k:Nat):Int)<(f:Int)+(k:Int))=false:=decide_eq_false (by omega)
   obtain⟨e1,e2,e3,e4⟩:=holdsM_same s op.owner T f k
   have hcell:mdCells (frM V vc a ac b qc) (holdsM s op.owner T f k)=mdCells (frM V vc a ac b qc) s:=by
    simp only[mdCells,frM,e1,e2,e3,e4]
   generalize holdsM s op.owner T f k=c at*
   replace hM:=Lib.hid (show MM=(c,{noRp with seat:=(f:Int),n:=(k:Int),deadline:=T}) by rw[hM.out,HNN.out])
   obtain⟨ms,hms⟩:∃ms:List Value,ms=mdCells (frM V vc a ac b qc) c:=⟨_,rfl⟩
   have HMS:=Lib.hid hms
   have KM:=Lib.hid (show BoxN wr q 31 ms.toArray by rw[hms,hcell];exact HK.out)
   have S1:=md_s hms
   have S1A:=md_S hms
   have L1:=md_l hms
   have O1:=md_o hms
   have S9:=rp_S (ms:=rpCells {noRp with seat:=(f:Int),n:=(k:Int),deadline:=T}) rfl
   have O9:=rp_o (ms:=rpCells {noRp with seat:=(f:Int),n:=(k:Int),deadline:=T}) rfl
   have HP5:=Lib.hid p5
   clear hms e1 e2 e3 e4 hcell HK HUB HNN HO HFL
   go_upto_region 14 with fail
   clear p5 zp
   refine wp_region_held (S:=fun X=>BoxN X q 31 ms.toArray∧X.cell? ⟨q+1,5,none⟩=some (.int .i64 (k:Int))∧q+1<X.heap.size) (by kernel_rfl) ?_
   refine at_world (fun X=>(BoxN X q 31 ms.toArray∧X.cell? ⟨q+1,5,none⟩=some (.int .i64 (k:Int))∧q+1<X.heap.size)∧RMem w0 X V vc a ac b qc vs' c∧BoxN X (q+1+1) 31 #[.int .i64 0,.int .i64 0,.int .i64 0,.slice none 0 0,.int .i64 0,.slice none 0 0,.slice none 0 0]∧BoxN X (q+1+1+1) 49 #[.int .i64 0,.int .i64 0,.int .i64 0,.int .i64 0,.int .u32 0,.int .u32 0,.int .u64 0,.int .u64 0,.int .i64 0]∧Only3 a a b W X) ⟨⟨KM.out,HP5.out,HP.out.lt⟩,HR.out.up (bdd (Below.refl _ _)),HJ.out,HG.out,HO3.out.trans (Only3.of a a b (bdd (Below.refl _ _)))⟩ fun w5 h5=> ?_
   have HSS:=h5.1
   have H5:=Lib.hid h5.2.1
   have J5:=Lib.hid h5.2.2.1
   have G5:=Lib.hid h5.2.2.2.1
   have O5:=Lib.hid h5.2.2.2.2
   have hsz5:=h5.2.2.2.2.size
   clear h5 HR HJ HG HP HO3 KM HP5
   refine takeTo (i:=0) (v:=.agg ms.toArray) (some 75) rfl rfl (by decide+kernel) (by decide+kernel) (by decide+kernel) (fun _ _ _ h=>h) (yieldsIf_load_mid rfl 31 (.tmp 2) rfl q 0 rfl ms _ (fun W hS=>hS.1.range2) Tryz.underlying31 rfl S1.out) HSS ?_
   refine takeTo (i:=1) (v:=.int .i64 (f:Int)) (some 76) rfl rfl (by decide+kernel) (by decide+kernel) (by decide+kernel) (fun _ _ _ h=>h) (.inl ⟨rfl,fun W hS=>by go_simp⟩) HSS ?_
   refine takeTo (i:=2) (v:=.pointer (some ⟨q+1,5,none⟩)) (some 77) rfl rfl (by decide+kernel) (by decide+kernel) (by decide+kernel) (fun _ _ _ h=>h) (.inl ⟨rfl,fun W hS=>by go_simp⟩) HSS ?_
   refine takeTo (i:=3) (v:=.int .i64 (k:Int)) (some 78) rfl rfl (by decide+kernel) (by decide+kernel) (by decide+kernel) (fun _ _ _ h=>h) (.inl ⟨rfl,fun W hS=>by(have c5:=hS.2.1;have zw:=hS.2.2;clear hS;go_simp)⟩) HSS ?_
   refine takeTo (i:=4) (v:=.int .i64 T) (some 79) rfl rfl (by decide+kernel) (by decide+kernel) (by decide+kernel) (fun _ _ _ h=>h) (.inl ⟨rfl,fun W hS=>by go_simp⟩) HSS ?_
   refine takeTo (i:=5) (v:=.agg #[.int .i64 0,.int .i64 (f:Int),.int .i64 (k:Int),.int .i64 T,.int .u32 0,.int .u32 0,.int .u64 0,.int .u64 0,.int .i64 0]) (some 80) rfl rfl (by decide+kernel) (by decide+kernel) (by decide+kernel) (fun _ _ _ h=>h) (.inl ⟨rfl,fun W hS=>by go_simp⟩) HSS ?_
   refine wpAnyH_all (rs:=[6]) (by decide+kernel) (by simp) fun j hj=> ?_
   obtain rfl:j=6:=by simpa using hj
   clear hj
   refine heldOp rfl fun K hK=> ?_
   go_wp2_with (refine wpList_store_row rfl 31 (.tmp 4) (.tmp 75) rfl (q+1+1) ms.toArray rfl rfl 31 _ J5.out S1A.out L1.out.symm O1.out ?_)
   have hrw:=grownBy_setRow J5.out ms.toArray
   refine hK.out _ _ ⟨⟨HSS.1.kept hrw.1 (by simp;omega),(World.cell?_of_block (hrw.1.block (q+1) HSS.2.2 (by simp))).trans HSS.2.1,Nat.lt_of_lt_of_le HSS.2.2 hrw.1.size⟩, ?_⟩
   clear hK K
   refine wpAnyH_all (rs:=[7]) (by decide+kernel) (by simp) fun j hj=> ?_
   obtain rfl:j=7:=by simpa using hj
   clear hj
   refine heldOp rfl fun K hK=> ?_
   go_wp2_with (refine wpList_store_row rfl 49 (.tmp 5) (.tmp 80) rfl (q+1+1+1) (rpCells {noRp with seat:=(f:Int),n:=(k:Int),deadline:=T}).toArray rfl rfl 49 _ (two_rows J5.out G5.out (by omega) ms.toArray #[]).1 S9.out rfl O9.out ?_)
   have hro2:=two_rows J5.out G5.out (by omega) ms.toArray (rpCells {noRp with seat:=(f:Int),n:=(k:Int),deadline:=T}).toArray
   refine hK.out _ _ ⟨⟨(HSS.1.kept hrw.1 (by simp;omega)).kept hro2.2.2.1 (by simp;omega),(World.cell?_of_block (hro2.2.2.1.block (q+1) (Nat.lt_of_lt_of_le HSS.2.2 hrw.1.size) (by simp))).trans ((World.cell?_of_block (hrw.1.block (q+1) HSS.2.2 (by simp))).trans HSS.2.1),Nat.lt_of_lt_of_le (Nat.lt_of_lt_of_le HSS.2.2 hrw.1.size) hro2.2.2.1.size⟩, ?_⟩
   clear hK K hrw hro2
   refine wpAnyH_done (by decide+kernel) ?_ _
   go_wp2_with fail
   have hrow:=two_rows J5.out G5.out (by omega) ms.toArray (rpCells {noRp with seat:=(f:Int),n:=(k:Int),deadline:=T}).toArray
   refine at_world (fun Y=>RMem w0 Y V vc a ac b qc vs' c∧BoxN Y (q+1+1) 31 ms.toArray∧BoxN Y (q+1+1+1) 49 (rpCells {noRp with seat:=(f:Int),n:=(k:Int),deadline:=T}).toArray∧Only3 a a b W Y) ⟨(H5.out.kept hrow.2.1 (Tag.of_box J5.out) (by omega) (by decide) (by decide) (by decide)).kept hrow.2.2.1 (Tag.of_box hrow.1) (by omega) (by decide) (by decide) (by decide),hrow.2.2.2.1,hrow.2.2.2.2,(O5.out.new hrow.2.1 (by omega)).new hrow.2.2.1 (by omega)⟩ fun Y hY=> ?_
   have k3:=hY.2.1
   have k4:=hY.2.2.1
   have hR:=hY.1
   have hO:=hY.2.2.2
   clear hY hrow
   rw[HMS.out] at k3
   have gg:=k3.x7
   have uu:=k4.x9
   clear k3 k4
   exact bodyPost_ret (v:=.tuple #[mdV (frM V vc a ac b qc) c,RpV {noRp with seat:=(f:Int),n:=(k:Int),deadline:=T}]) (by simp[results,Tryz.results39,go_sem,mdV,RpV,gg,uu]) rfl (show ROp w0 W V vc a ac b qc MM _ _ from⟨vs',by rw[hM.out],by rw[hM.out];exact hR,hO⟩)
end Go.Proofs.YtlckmjiioohcmaaGreatDoor

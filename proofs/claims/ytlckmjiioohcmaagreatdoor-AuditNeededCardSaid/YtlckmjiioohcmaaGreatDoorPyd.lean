/-
  Walk of groundlinglaw32.played: the record of an office. Conditions: the pinned table lies where it was laid.
-/
import Derived.Test.YtlckmjiioohcmaaGreatDoorPlRp
import Derived.Test.YtlckmjiioohcmaaGreatDoorSmM
import Derived.Deep.RegionHeld3
namespace Go.Proofs.YtlckmjiioohcmaaGreatDoor
open Go.RowKit
theorem stR_flat:stR.flat:=fun _ _ _ _ h=>h
theorem infoSt:(Tryz.prog.info? 73).map (fun i=>(i.zero,i.size,i.bytes))=some (some (.agg #[.int .i64 0,.int .u32 0,.int .i64 0,.int .i64 0,.int .i64 0,.int .i64 0,.int .u32 0,.int .u32 0,.int .u32 0,.int .u64 0,.int .u64 0,.int .i64 0,.int .i64 0,.int .i64 0,.int .i64 0,.int .i64 0,.int .u32 0,.int .u32 0,.int .u64 0,.int .u64 0,.int .i64 0]),stR.size,152):=by kernel_rfl
theorem st_one (w:World) (g:Nat) (p:MOp×MRp) (hg:g=w.heap.size) (h:OpOk p.1∧RpOk p.2):Sl stR (w.alloc (.cells (stCells p).toArray 73)) (.slice (some ⟨g,0,none⟩) 1 1) [p]:=
 (Own.lit (R:=stR) (B:=0) (e:=73) (w:=w) (cells:=stCells p) (xs:=[p]) hg (Nat.zero_le _) (Rep.many_one (R:=stR) ⟨rfl,h⟩) rfl (by simp)).sl
theorem md_sx {W:World} {F:MFrm} {s:Md} (h:IsMd W F s) (k:Nat):SxOk (seatAt s k):=by
 unfold seatAt
 by_cases hk:k<s.seats.length
 ·rw[List.getD_eq_getElem?_getD,List.getElem?_eq_getElem hk]
  obtain⟨_,_,_,_,_,⟨_,hx⟩,_⟩:=h.seats.at_ hk
  exact hx
 ·rw[List.getD_eq_getElem?_getD,List.getElem?_eq_none (by omega)]
  simp[zeroSx,SxOk,U32,U64,Bd]
def PlayedPost (w:World) (x:Ve) (ops:List MOp) (e:Ending) (w':World):Prop:=
 ∃A c,e=.returned (.tuple #[.slice A (if(newM x).2=0 then(recTo (newM x).1 ops).2 else[]).length c,.bool (decide ((newM x).2=0))])∧Own stR 73 w.heap.size w' (.slice A (if(newM x).2=0 then(recTo (newM x).1 ops).2 else[]).length c) (if(newM x).2=0 then(recTo (newM x).1 ops).2 else[])∧Below w.heap.size w w'
set_option maxRecDepth 20000 in
set_option maxHeartbeats 8000000 in
theorem played_any {w:World} {V:Option Addr} {vc:Nat} {x:Ve} (hv:Sl secR w (.slice V x.secs.length vc) x.secs) (hb1:Bd x.shards) (hb2:Bd x.ttl) (hb3:Bd x.session) {A:Option Addr} {c:Nat} {ops:List MOp} (ho:Sl opR w (.slice A ops.length c) ops) (hl:ops.length≤1000) (hu:UsesAt w):
 Calls Tryz.prog 20 #[.agg #[.int .i64 x.shards,.int .i64 x.ttl,.int .i64 x.session,.slice V x.secs.length vc],.slice A ops.length c] w (PlayedPost w x ops):=by
 have hcap:=ho.cap
 have HO:=Lib.hid ho
 have HU:=Lib.hid hu
 have CN:=Lib.hid (fun W (hb:Below w.heap.size w W)=>new_any (hv.up hb) hb1 hb2 hb3)
 have HOK:=Lib.hid (@newM_ok x)
 clear hv ho hu
 unfold NewPost at CN
 unfold PlayedPost
 generalize newM x=M at CN HOK⊢
 obtain⟨s,E⟩:=M
 simp only at CN HOK⊢
 have HB1:=Lib.hid (show E≠0→(if E=0 then(recTo s ops).2 else[])=[]∧decide (E=0)=false from fun h=>⟨if_neg h,decide_eq_false h⟩)
 have HB2:=Lib.hid (show E=0→(if E=0 then(recTo s ops).2 else[])=(recTo s ops).2∧decide (E=0)=true from fun h=>⟨if_pos h,decide_eq_true h⟩)
 generalize(if E=0 then(recTo s ops).2 else[])=RR at HB1 HB2⊢
 generalize decide (E=0)=BB at HB1 HB2⊢
 go_enter Tryz.func20,Tryz.ntmps20
 go_upto_region 1 with fail
 refine at_world (fun X=>Below w.heap.size w X∧BoxN X w.heap.size 24 #[.int .i64 x.shards,.int .i64 x.ttl,.int .i64 x.session,.slice V x.secs.length vc]) ⟨ba _ _,BoxN.new _ _ _⟩ fun w0 hw0=> ?_
 have B0:=Lib.hid hw0.1
 have K0:=Lib.hid hw0.2
 clear hw0
 obtain⟨a0,-,a1,-,a2,-,a3,-,z0⟩:=K0.out.x4
 go_wp2_with fail
 refine(CN.out _ B0.out).mono ?_
 rintro e w2 ⟨F,rfl,hb,hI⟩
 have B2:=Lib.hid (B0.out.trans (hb.mono B0.out.size))
 have HI2:=Lib.hid hI
 clear hb hI a0 a1 a2 a3 z0 CN K0 B0
 have S7A:=Lib.hid (show(Tryz.prog.info? 31).map (·.size)=some (mdCells F s).toArray.size by kernel_rfl)
 have O7:=Lib.hid (show(mdCells F s).toArray.all (·.oneCell')=true by simp[mdCells,Value.oneCell'])
 have L7:=Lib.hid (show(mdCells F s).toArray.size=7 by rfl)
 have MV:=Lib.hid (show mdV F s=.agg (mdCells F s).toArray from rfl)
 rw[MV.out]
 go_upto_region 2 with(refine wpList_store_row rfl 31 (.tmp 6) (.tmp 16) rfl w2.heap.size (mdCells F s).toArray rfl rfl 31 _ (BoxN.new _ _ _) S7A.out L7.out.symm O7.out ?_)
 obtain⟨q,hq⟩:∃q,w2.heap.size=q:=⟨_,rfl⟩
 rw[hq]
 have hbn:BoxN (w2.alloc (.cells #[.int .i64 0,.int .i64 0,.int .i64 0,.slice none 0 0,.int .i64 0,.slice none 0 0,.slice none 0 0] 31)) q 31 #[.int .i64 0,.int .i64 0,.int .i64 0,.slice none 0 0,.int .i64 0,.slice none 0 0,.slice none 0 0]:=hq▸BoxN.new w2 31 #[.int .i64 0,.int .i64 0,.int .i64 0,.slice none 0 0,.int .i64 0,.slice none 0 0,.slice none 0 0]
 have hrow:=grownBy_setRow hbn (mdCells F s).toArray
 refine at_world (fun X=>Below w2.heap.size w2 X∧BoxN X q 31 (mdCells F s).toArray) ⟨(ba w2 (.cells #[.int .i64 0,.int .i64 0,.int .i64 0,.slice none 0 0,.int .i64 0,.slice none 0 0,.slice none 0 0] 31)).grown hrow.1 (by simp) (fun k hk=>by injection hk with hk;omega),hrow.2⟩ fun w3 hw3=> ?_
 have B3:=Lib.hid (B2.out.trans (hw3.1.mono B2.out.size))
 have HK3:=Lib.hid (MdKeep.first HI2.out hw3.1)
 have K3:=Lib.hid hw3.2
 have hlq:w2.heap.size≤q:=by omega
 have hwq:w.heap.size≤q:=by have:=B2.out.size;omega
 obtain⟨lo,hlow⟩:∃lo,w2.heap.size=lo:=⟨_,rfl⟩
 have hwlo:w.heap.size≤lo:=by have:=B2.out.size;omega
 rw[hlow] at HK3 hlq
 clear hbn hrow hw3 HI2 S7A O7 L7 MV hq B2 hlow
 by_cases hE:E=0
 case neg=>
  have t1:(E !=0)=true:=by simpa using hE
  obtain⟨rfl,rfl⟩:=HB1.out hE
  clear hE HB1 HB2
  go_wp2_with fail
  go_ret2
  exact⟨none,0,rfl,Own.nil _ _ _ _,B3.out⟩
 have OK:=Lib.hid (HOK.out hE)
 obtain⟨hRR,rfl⟩:=HB2.out hE
 have HRR:=Lib.hid hRR
 subst hE
 clear HB1 HB2 hRR
 go_wp2_with fail
 go_loopw [8,9] (fun v i wr=> ∃(k:Nat) (Fk:MFrm),k≤ops.length∧i=.int .i64 (k:Int)∧Hid (Own stR 73 lo wr v (recTo s (ops.take k)).2)∧Hid (Below w.heap.size w wr)∧Hid (BoxN wr q 31 (mdCells Fk (recTo s (ops.take k)).1).toArray)∧Hid (MdKeep lo wr Fk (recTo s (ops.take k)).1)) (fun _ i _=>ops.length-(intOf i).toNat)
 case atStart=>exact⟨0,F,by omega,rfl,Lib.hid (Own.nil _ _ _ _),B3,K3,HK3⟩
 case round=>
  obtain⟨k,Fk,hk,rfl,HV,HB,HS,HK⟩:=hrel
  rename World=>wq
  have hloW:lo≤wq.heap.size:=by have:=HS.out.lt;omega
  clear B3 K3 HK3
  by_cases hlt:k<ops.length
  case neg=>
   obtain rfl:k=ops.length:=by omega
   have t0:decide ((ops.length:Int)<(ops.length:Int))=false:=by simp
   rw[List.take_length] at HV
   obtain⟨A9,c9,rfl,_,_,hown⟩:=HV.out.form
   have HV9:=Lib.hid (hown.mono hwlo)
   clear hown HV
   go_wp2_with fail
   go_ret2
   exact⟨A9,c9,by rw[HRR.out];rfl,by rw[HRR.out];exact HV9.out,HB.out⟩
  have t0:decide ((k:Int)<(ops.length:Int))=true:=decide_eq_true (by omega)
  have hk0:(0:Int)≤(k:Int):=by omega
  have hk1:(k:Int)<(ops.length:Int):=by omega
  have hln:(recTo s (ops.take k)).2.length≤1000:=by have:=recTo_len s (ops.take k);rw[List.length_take] at this;omega
  obtain⟨bl,off,os,rfl,hbl,⟨hos,hoo⟩,hat⟩:=(HO.out.up HB.out).at_ hlt
  obtain⟨bl0,off0,os0,hbe,hbl0,⟨hos0,_⟩,hat0⟩:=HO.out.at_ hlt
  obtain⟨rfl,rfl⟩:bl=bl0∧off=off0:=by cases hbe;exact⟨rfl,rfl⟩
  obtain rfl:os=os0:=by rw[hos,hos0]
  have HAT:=Lib.hid (show wq.rangeAt bl (off+k*12) os from hat)
  have HAT0:=Lib.hid (show w.rangeAt bl (off+k*12) os from hat0)
  have HOO:=Lib.hid hoo
  have OKk:=Lib.hid (recTo_ok OK.out (ops.take k))
  have HRP:=Lib.hid (do_rpOk (op:=ops[k]) OKk.out (md_sx HK.out.isMd) hoo)
  have HNX:=Lib.hid (show recTo s (ops.take (k+1))=recStep (recTo s (ops.take k)) ops[k] by rw[List.take_succ_eq_append_getElem hlt,recTo_snoc])
  unfold recStep at HNX
  have CD:=Lib.hid (fun W (hb:Below wq.heap.size wq W)=>mDo_any lo Fk (recTo s (ops.take k)).1 ops[k] W (HK.out.up (Loose.of hb)) (Nat.le_trans hloW hb.size) (md_small OKk.out) HOO.out (HU.out.up (HB.out.trans (hb.mono HB.out.size)) HU.out.1))
  unfold MDoPost at CD
  rw[mdoM_ok OKk.out,←hos] at CD
  have S2:=Lib.hid (show(Tryz.prog.info? 46).map (·.size)=some os.length by rw[hos];kernel_rfl)
  have HOS:=Lib.hid hos
  clear hat hat0 hoo hos hos0 hbe hbl0
  generalize recTo s (ops.take k)=R at*
  obtain⟨sk,rk⟩:=R
  simp only at CD HNX HV HS HK OKk hln HRP
  generalize ops[k]=op at*
  generalize doM sk op=N at CD HNX HRP
  obtain⟨s',r,f⟩:=N
  simp only at CD HNX HRP
  have MVk:=Lib.hid (show mdV Fk sk=.agg (mdCells Fk sk).toArray from rfl)
  have S7:=Lib.hid (show(Tryz.prog.info? 31).map (·.size)=some (mdCells Fk sk).length by kernel_rfl)
  rw[MVk.out] at CD
  obtain⟨ms,hms⟩:∃ms:List Value,ms=mdCells Fk sk:=⟨_,rfl⟩
  have LM:=Lib.hid (show ms.toArray.size=7 by rw[hms];rfl)
  rw[←hms] at CD S7 HS
  have HMS:=Lib.hid hms
  clear hms OKk
  go_upto_region 8 with fail
  go_cut [10,11,12] from 20 to 47 (fun v8 v9 v10 W=> ∃b8 b9 F',v8=.pointer (some ⟨b8,0,none⟩)∧v9=.pointer (some ⟨b9,0,none⟩)∧v10=.int .i64 f∧Below wq.heap.size wq W∧MdKeep lo W F' s'∧BoxN W b8 31 (mdCells F' s').toArray∧wq.heap.size≤b8∧BoxN W b9 49 (rpCells r).toArray∧wq.heap.size≤b9)
  case first=>as_aux_lemma=>
   refine wp_region_held (S:=fun X=>Below wq.heap.size wq X) (by kernel_rfl) ?_
   have HS0:Below wq.heap.size wq wq.drew:=bdd (Below.refl _ _)
   refine wpAnyH_take (i:=0) rfl (by decide+kernel) (by decide+kernel) (by decide+kernel) (fun _ _ _ h=>h) (yieldsIf_load_mid rfl 31 (.tmp 6) rfl (q) (0) rfl (ms) _ (fun X hX=>(HS.out.later hX).range2) Tryz.underlying31 rfl (S7.out)) HS0 ?_
   refine wpAnyH_take (i:=1) (v:=.slice (some ⟨bl,off,none⟩) ops.length c) rfl (by decide+kernel) (by decide+kernel) (by decide+kernel) (fun _ _ _ h=>h) (.inl ⟨rfl,fun W hS=>by go_simp⟩) HS0 ?_
   refine wpAnyH_take (i:=2) (v:=.int .i64 (k:Int)) rfl (by decide+kernel) (by decide+kernel) (by decide+kernel) (fun _ _ _ h=>h) (.inl ⟨rfl,fun W hS=>by go_simp⟩) HS0 ?_
   refine wpAnyH_take (i:=3) (v:=.pointer (some ⟨bl,off+k*12,none⟩)) rfl (by decide+kernel) (by decide+kernel) (by decide+kernel) (fun _ _ _ h=>h) (.inl ⟨rfl,fun W hS=>by go_simp⟩) HS0 ?_
   refine wpAnyH_take (i:=4) rfl (by decide+kernel) (by decide+kernel) (by decide+kernel) (fun _ _ _ h=>h) (yieldsIf_load_mid rfl 46 (.tmp 30) rfl (bl) (off+k*12) rfl (os) _ (fun X hX=>range_later hX HAT.out) Tryz.underlying46 rfl (S2.out)) HS0 ?_
   refine wpAnyH_all (rs:=[5,10,11]) (by kernel_rfl) (by simp) fun j hj=> ?_
   simp only[List.mem_cons,List.not_mem_nil,or_false] at hj
   rcases hj with rfl|rfl|rfl
   ·refine heldOp rfl fun K hK=> ?_
    go_wp2_with fail
    refine(CD.out wq.drew HS0).mono ?_
    rintro e y ⟨F',rfl,hb,hk⟩
    have HF:=Lib.hid (show MdKeep lo y F' s' from hk)
    clear hk
    have V9:=Lib.hid (show mdV F' s'=.agg (mdCells F' s').toArray from rfl)
    have V8:=Lib.hid (show RpV r=.agg (rpCells r).toArray from rfl)
    rw[V9.out,V8.out]
    obtain⟨hs,hhs⟩:∃hs:List Value,hs=mdCells F' s':=⟨_,rfl⟩
    obtain⟨rs,hrs⟩:∃rs:List Value,rs=rpCells r:=⟨_,rfl⟩
    rw[←hhs,←hrs]
    have HHS:=Lib.hid hhs
    have HRS:=Lib.hid hrs
    have S9A:=Lib.hid (show(Tryz.prog.info? 31).map (·.size)=some hs.toArray.size by rw[hhs];kernel_rfl)
    have L9:=Lib.hid (show hs.toArray.size=7 by rw[hhs];rfl)
    have O9:=Lib.hid (show hs.toArray.all (·.oneCell')=true by rw[hhs];simp[mdCells,Value.oneCell'])
    have S8A:=Lib.hid (show(Tryz.prog.info? 49).map (·.size)=some rs.toArray.size by rw[hrs];kernel_rfl)
    have L8:=Lib.hid (show rs.toArray.size=9 by rw[hrs];rfl)
    have O8:=Lib.hid (show rs.toArray.all (·.oneCell')=true by rw[hrs];simp[rpCells,Value.oneCell'])
    clear hhs hrs V9 V8
    go_wp2_with fail
    refine at_world (fun X=>(Below wq.heap.size wq X)∧(MdKeep lo X F' s')) ⟨HS0.trans (hb.mono HS0.size),HF.out⟩ fun x1 hx1=> ?_
    have S1:=Lib.hid (hx1.1)
    have KK1:=Lib.hid (hx1.2)
    clear hx1
    clear hb HF
    refine hK.out _ _ ⟨S1.out, ?_⟩
    clear hK K
    refine wpAnyH_take (i:=6) (v:=.tuple #[.agg hs.toArray,.agg rs.toArray,.int .i64 f]) rfl (by decide+kernel) (by decide+kernel) (by decide+kernel) (fun _ _ _ h=>h) (.inl ⟨rfl,fun W hS=>by go_simp⟩) S1.out ?_
    refine wpAnyH_take (i:=7) (v:=.agg hs.toArray) rfl (by decide+kernel) (by decide+kernel) (by decide+kernel) (fun _ _ _ h=>h) (.inl ⟨rfl,fun W hS=>by go_simp⟩) S1.out ?_
    refine wpAnyH_take (i:=8) (v:=.agg rs.toArray) rfl (by decide+kernel) (by decide+kernel) (by decide+kernel) (fun _ _ _ h=>h) (.inl ⟨rfl,fun W hS=>by go_simp⟩) S1.out ?_
    refine wpAnyH_take (i:=9) (v:=.int .i64 f) rfl (by decide+kernel) (by decide+kernel) (by decide+kernel) (fun _ _ _ h=>h) (.inl ⟨rfl,fun W hS=>by go_simp⟩) S1.out ?_
    refine wpAnyH_all (rs:=[10,11]) (by kernel_rfl) (by simp) fun j hj=> ?_
    simp only[List.mem_cons,List.not_mem_nil,or_false] at hj
    rcases hj with rfl|rfl
    ·refine heldOp rfl fun K hK=> ?_
     go_wp2_with fail
     obtain⟨b8,hq8⟩:∃q,x1.heap.size=q:=⟨_,rfl⟩
     try rw[hq8]
     refine at_world (fun X=>(Below wq.heap.size wq X)∧(MdKeep lo X F' s')∧(BoxN X b8 31 #[.int .i64 0,.int .i64 0,.int .i64 0,.slice none 0 0,.int .i64 0,.slice none 0 0,.slice none 0 0]∧wq.heap.size≤b8)) ⟨S1.out.trans ((ba x1 (.cells #[.int .i64 0,.int .i64 0,.int .i64 0,.slice none 0 0,.int .i64 0,.slice none 0 0,.slice none 0 0] 31)).mono S1.out.size),KK1.out.up (Loose.of (ba x1 (.cells #[.int .i64 0,.int .i64 0,.int .i64 0,.slice none 0 0,.int .i64 0,.slice none 0 0,.slice none 0 0] 31))),⟨(by rw[←hq8];exact BoxN.new _ _ _),(by rw[←hq8];exact S1.out.size)⟩⟩ fun x2 hx2=> ?_
     have S2:=Lib.hid (hx2.1)
     have KK2:=Lib.hid (hx2.2.1)
     have B82:=Lib.hid (hx2.2.2)
     clear hx2
     clear hq8
     clear S1 KK1
     refine hK.out _ _ ⟨S2.out, ?_⟩
     clear hK K
     refine wpAnyH_all (rs:=[11]) (by kernel_rfl) (by simp) fun j hj=> ?_
     obtain rfl:j=11:=by simpa using hj
     clear hj
     refine heldOp rfl fun K hK=> ?_
     go_wp2_with fail
     obtain⟨b9,hq9⟩:∃q,x2.heap.size=q:=⟨_,rfl⟩
     try rw[hq9]
     refine at_world (fun X=>(Below wq.heap.size wq X)∧(MdKeep lo X F' s')∧(BoxN X b8 31 #[.int .i64 0,.int .i64 0,.int .i64 0,.slice none 0 0,.int .i64 0,.slice none 0 0,.slice none 0 0]∧wq.heap.size≤b8)∧(BoxN X b9 49 #[.int .i64 0,.int .i64 0,.int .i64 0,.int .i64 0,.int .u32 0,.int .u32 0,.int .u64 0,.int .u64 0,.int .i64 0]∧wq.heap.size≤b9)∧(b8≠b9)) ⟨S2.out.trans ((ba x2 (.cells #[.int .i64 0,.int .i64 0,.int .i64 0,.int .i64 0,.int .u32 0,.int .u32 0,.int .u64 0,.int .u64 0,.int .i64 0] 49)).mono S2.out.size),KK2.out.up (Loose.of (ba x2 (.cells #[.int .i64 0,.int .i64 0,.int .i64 0,.int .i64 0,.int .u32 0,.int .u32 0,.int .u64 0,.int .u64 0,.int .i64 0] 49))),⟨B82.out.1.alloc _,B82.out.2⟩,⟨(by rw[←hq9];exact BoxN.new _ _ _),(by rw[←hq9];exact S2.out.size)⟩,(by have:=B82.out.1.lt;omega)⟩ fun x3 hx3=> ?_
     have S3:=Lib.hid (hx3.1)
     have KK3:=Lib.hid (hx3.2.1)
     have B83:=Lib.hid (hx3.2.2.1)
     have B93:=Lib.hid (hx3.2.2.2.1)
     have N893:=Lib.hid (hx3.2.2.2.2)
     clear hx3
     clear hq9
     clear S2 KK2 B82
     refine hK.out _ _ ⟨S3.out, ?_⟩
     clear hK K
     refine wpAnyH_all (rs:=[12]) (by kernel_rfl) (by simp) fun j hj=> ?_
     obtain rfl:j=12:=by simpa using hj
     clear hj
     refine heldOp rfl fun K hK=> ?_
     go_wp2_with (refine wpList_store_row rfl 31 (.tmp 10) (.tmp 33) rfl b8 hs.toArray rfl rfl 31 _ B83.out.1 S9A.out L9.out.symm O9.out ?_)
     have hrow:=grownBy_setRow B83.out.1 (hs.toArray)
     have htag:=Tag.of_box B83.out.1
     have hle:=B83.out.2
     refine at_world (fun X=>(Below wq.heap.size wq X)∧(MdKeep lo X F' s')∧(BoxN X b8 31 hs.toArray∧wq.heap.size≤b8)∧(BoxN X b9 49 #[.int .i64 0,.int .i64 0,.int .i64 0,.int .i64 0,.int .u32 0,.int .u32 0,.int .u64 0,.int .u64 0,.int .i64 0]∧wq.heap.size≤b9)∧(b8≠b9)) ⟨S3.out.grown hrow.1 S3.out.size (fun k hk=>by injection hk with hk;omega),KK3.out.up (Loose.grown hrow.1 htag (by omega) (by decide) (by decide) (by decide)),⟨hrow.2,hle⟩,⟨B93.out.1.kept hrow.1 (fun e=>N893.out.symm (by injection e)),B93.out.2⟩,N893.out⟩ fun x4 hx4=> ?_
     have S4:=Lib.hid (hx4.1)
     have KK4:=Lib.hid (hx4.2.1)
     have B84:=Lib.hid (hx4.2.2.1)
     have B94:=Lib.hid (hx4.2.2.2.1)
     have N894:=Lib.hid (hx4.2.2.2.2)
     clear hx4
     clear hrow htag hle
     clear S3 KK3 B83 B93 N893
     refine hK.out _ _ ⟨S4.out, ?_⟩
     clear hK K
     refine wpAnyH_all (rs:=[13]) (by kernel_rfl) (by simp) fun j hj=> ?_
     obtain rfl:j=13:=by simpa using hj
     clear hj
     refine heldOp rfl fun K hK=> ?_
     go_wp2_with (refine wpList_store_row rfl 49 (.tmp 11) (.tmp 34) rfl b9 rs.toArray rfl rfl 49 _ B94.out.1 S8A.out L8.out.symm O8.out ?_)
     have hrow:=grownBy_setRow B94.out.1 (rs.toArray)
     have htag:=Tag.of_box B94.out.1
     have hle:=B94.out.2
     refine at_world (fun X=>(Below wq.heap.size wq X)∧(MdKeep lo X F' s')∧(BoxN X b8 31 hs.toArray∧wq.heap.size≤b8)∧(BoxN X b9 49 rs.toArray∧wq.heap.size≤b9)∧(b8≠b9)) ⟨S4.out.grown hrow.1 S4.out.size (fun k hk=>by injection hk with hk;omega),KK4.out.up (Loose.grown hrow.1 htag (by omega) (by decide) (by decide) (by decide)),⟨B84.out.1.kept hrow.1 (fun e=>N894.out (by injection e)),B84.out.2⟩,⟨hrow.2,hle⟩,N894.out⟩ fun x5 hx5=> ?_
     have S5:=Lib.hid (hx5.1)
     have KK5:=Lib.hid (hx5.2.1)
     have B85:=Lib.hid (hx5.2.2.1)
     have B95:=Lib.hid (hx5.2.2.2.1)
     have N895:=Lib.hid (hx5.2.2.2.2)
     clear hx5
     clear hrow htag hle
     clear S4 KK4 B84 B94 N894
     refine hK.out _ _ ⟨S5.out, ?_⟩
     clear hK K
     refine wpAnyH_take (i:=14) (v:=.int .i64 f) rfl (by decide+kernel) (by decide+kernel) (by decide+kernel) (fun _ _ _ h=>h) (.inl ⟨rfl,fun W hS=>by go_simp⟩) S5.out ?_
     refine wpAnyH_done (by kernel_rfl) ?_ _
     go_wp2_with fail
     go_meet
     exact⟨_,_,F',rfl,rfl,rfl,S5.out,KK5.out,by rw[←HHS.out];exact B85.out.1,B85.out.2,by rw[←HRS.out];exact B95.out.1,B95.out.2⟩
    ·refine heldOp rfl fun K hK=> ?_
     go_wp2_with fail
     obtain⟨b9,hq9⟩:∃q,x1.heap.size=q:=⟨_,rfl⟩
     try rw[hq9]
     refine at_world (fun X=>(Below wq.heap.size wq X)∧(MdKeep lo X F' s')∧(BoxN X b9 49 #[.int .i64 0,.int .i64 0,.int .i64 0,.int .i64 0,.int .u32 0,.int .u32 0,.int .u64 0,.int .u64 0,.int .i64 0]∧wq.heap.size≤b9)) ⟨S1.out.trans ((ba x1 (.cells #[.int .i64 0,.int .i64 0,.int .i64 0,.int .i64 0,.int .u32 0,.int .u32 0,.int .u64 0,.int .u64 0,.int .i64 0] 49)).mono S1.out.size),KK1.out.up (Loose.of (ba x1 (.cells #[.int .i64 0,.int .i64 0,.int .i64 0,.int .i64 0,.int .u32 0,.int .u32 0,.int .u64 0,.int .u64 0,.int .i64 0] 49))),⟨(by rw[←hq9];exact BoxN.new _ _ _),(by rw[←hq9];exact S1.out.size)⟩⟩ fun x2 hx2=> ?_
     have S2:=Lib.hid (hx2.1)
     have KK2:=Lib.hid (hx2.2.1)
     have B92:=Lib.hid (hx2.2.2)
     clear hx2
     clear hq9
     clear S1 KK1
     refine hK.out _ _ ⟨S2.out, ?_⟩
     clear hK K
     refine wpAnyH_all (rs:=[10]) (by kernel_rfl) (by simp) fun j hj=> ?_
     obtain rfl:j=10:=by simpa using hj
     clear hj
     refine heldOp rfl fun K hK=> ?_
     go_wp2_with fail
     obtain⟨b8,hq8⟩:∃q,x2.heap.size=q:=⟨_,rfl⟩
     try rw[hq8]
     refine at_world (fun X=>(Below wq.heap.size wq X)∧(MdKeep lo X F' s')∧(BoxN X b8 31 #[.int .i64 0,.int .i64 0,.int .i64 0,.slice none 0 0,.int .i64 0,.slice none 0 0,.slice none 0 0]∧wq.heap.size≤b8)∧(BoxN X b9 49 #[.int .i64 0,.int .i64 0,.int .i64 0,.int .i64 0,.int .u32 0,.int .u32 0,.int .u64 0,.int .u64 0,.int .i64 0]∧wq.heap.size≤b9)∧(b8≠b9)) ⟨S2.out.trans ((ba x2 (.cells #[.int .i64 0,.int .i64 0,.int .i64 0,.slice none 0 0,.int .i64 0,.slice none 0 0,.slice none 0 0] 31)).mono S2.out.size),KK2.out.up (Loose.of (ba x2 (.cells #[.int .i64 0,.int .i64 0,.int .i64 0,.slice none 0 0,.int .i64 0,.slice none 0 0,.slice none 0 0] 31))),⟨(by rw[←hq8];exact BoxN.new _ _ _),(by rw[←hq8];exact S2.out.size)⟩,⟨B92.out.1.alloc _,B92.out.2⟩,(by have:=B92.out.1.lt;omega)⟩ fun x3 hx3=> ?_
     have S3:=Lib.hid (hx3.1)
     have KK3:=Lib.hid (hx3.2.1)
     have B83:=Lib.hid (hx3.2.2.1)
     have B93:=Lib.hid (hx3.2.2.2.1)
     have N893:=Lib.hid (hx3.2.2.2.2)
     clear hx3
     clear hq8
     clear S2 KK2 B92
     refine hK.out _ _ ⟨S3.out, ?_⟩
     clear hK K
     refine wpAnyH_all (rs:=[12]) (by kernel_rfl) (by simp) fun j hj=> ?_
     obtain rfl:j=12:=by simpa using hj
     clear hj
     refine heldOp rfl fun K hK=> ?_
     go_wp2_with (refine wpList_store_row rfl 31 (.tmp 10) (.tmp 33) rfl b8 hs.toArray rfl rfl 31 _ B83.out.1 S9A.out L9.out.symm O9.out ?_)
     have hrow:=grownBy_setRow B83.out.1 (hs.toArray)
     have htag:=Tag.of_box B83.out.1
     have hle:=B83.out.2
     refine at_world (fun X=>(Below wq.heap.size wq X)∧(MdKeep lo X F' s')∧(BoxN X b8 31 hs.toArray∧wq.heap.size≤b8)∧(BoxN X b9 49 #[.int .i64 0,.int .i64 0,.int .i64 0,.int .i64 0,.int .u32 0,.int .u32 0,.int .u64 0,.int .u64 0,.int .i64 0]∧wq.heap.size≤b9)∧(b8≠b9)) ⟨S3.out.grown hrow.1 S3.out.size (fun k hk=>by injection hk with hk;omega),KK3.out.up (Loose.grown hrow.1 htag (by omega) (by decide) (by decide) (by decide)),⟨hrow.2,hle⟩,⟨B93.out.1.kept hrow.1 (fun e=>N893.out.symm (by injection e)),B93.out.2⟩,N893.out⟩ fun x4 hx4=> ?_
     have S4:=Lib.hid (hx4.1)
     have KK4:=Lib.hid (hx4.2.1)
     have B84:=Lib.hid (hx4.2.2.1)
     have B94:=Lib.hid (hx4.2.2.2.1)
     have N894:=Lib.hid (hx4.2.2.2.2)
     clear hx4
     clear hrow htag hle
     clear S3 KK3 B83 B93 N893
     refine hK.out _ _ ⟨S4.out, ?_⟩
     clear hK K
     refine wpAnyH_all (rs:=[13]) (by kernel_rfl) (by simp) fun j hj=> ?_
     obtain rfl:j=13:=by simpa using hj
     clear hj
     refine heldOp rfl fun K hK=> ?_
     go_wp2_with (refine wpList_store_row rfl 49 (.tmp 11) (.tmp 34) rfl b9 rs.toArray rfl rfl 49 _ B94.out.1 S8A.out L8.out.symm O8.out ?_)
     have hrow:=grownBy_setRow B94.out.1 (rs.toArray)
     have htag:=Tag.of_box B94.out.1
     have hle:=B94.out.2
     refine at_world (fun X=>(Below wq.heap.size wq X)∧(MdKeep lo X F' s')∧(BoxN X b8 31 hs.toArray∧wq.heap.size≤b8)∧(BoxN X b9 49 rs.toArray∧wq.heap.size≤b9)∧(b8≠b9)) ⟨S4.out.grown hrow.1 S4.out.size (fun k hk=>by injection hk with hk;omega),KK4.out.up (Loose.grown hrow.1 htag (by omega) (by decide) (by decide) (by decide)),⟨B84.out.1.kept hrow.1 (fun e=>N894.out (by injection e)),B84.out.2⟩,⟨hrow.2,hle⟩,N894.out⟩ fun x5 hx5=> ?_
     have S5:=Lib.hid (hx5.1)
     have KK5:=Lib.hid (hx5.2.1)
     have B85:=Lib.hid (hx5.2.2.1)
     have B95:=Lib.hid (hx5.2.2.2.1)
     have N895:=Lib.hid (hx5.2.2.2.2)
     clear hx5
     clear hrow htag hle
     clear S4 KK4 B84 B94 N894
     refine hK.out _ _ ⟨S5.out, ?_⟩
     clear hK K
     refine wpAnyH_take (i:=14) (v:=.int .i64 f) rfl (by decide+kernel) (by decide+kernel) (by decide+kernel) (fun _ _ _ h=>h) (.inl ⟨rfl,fun W hS=>by go_simp⟩) S5.out ?_
     refine wpAnyH_done (by kernel_rfl) ?_ _
     go_wp2_with fail
     go_meet
     exact⟨_,_,F',rfl,rfl,rfl,S5.out,KK5.out,by rw[←HHS.out];exact B85.out.1,B85.out.2,by rw[←HRS.out];exact B95.out.1,B95.out.2⟩
   ·refine heldOp rfl fun K hK=> ?_
    go_wp2_with fail
    obtain⟨b8,hq8⟩:∃q,wq.heap.size=q:=⟨_,rfl⟩
    try rw[hq8]
    refine at_world (fun X=>(Below wq.heap.size wq X)∧(BoxN X b8 31 #[.int .i64 0,.int .i64 0,.int .i64 0,.slice none 0 0,.int .i64 0,.slice none 0 0,.slice none 0 0]∧wq.heap.size≤b8)) ⟨HS0.trans ((ba wq.drew (.cells #[.int .i64 0,.int .i64 0,.int .i64 0,.slice none 0 0,.int .i64 0,.slice none 0 0,.slice none 0 0] 31)).mono HS0.size),⟨(by rw[←hq8];exact BoxN.new _ _ _),(by rw[←hq8];exact HS0.size)⟩⟩ fun x1 hx1=> ?_
    have S1:=Lib.hid (hx1.1)
    have B81:=Lib.hid (hx1.2)
    clear hx1
    clear hq8
    refine hK.out _ _ ⟨S1.out, ?_⟩
    clear hK K
    refine wpAnyH_all (rs:=[5,11]) (by kernel_rfl) (by simp) fun j hj=> ?_
    simp only[List.mem_cons,List.not_mem_nil,or_false] at hj
    rcases hj with rfl|rfl
    ·refine heldOp rfl fun K hK=> ?_
     go_wp2_with fail
     refine(CD.out x1 S1.out).mono ?_
     rintro e y ⟨F',rfl,hb,hk⟩
     have HF:=Lib.hid (show MdKeep lo y F' s' from hk)
     clear hk
     have V9:=Lib.hid (show mdV F' s'=.agg (mdCells F' s').toArray from rfl)
     have V8:=Lib.hid (show RpV r=.agg (rpCells r).toArray from rfl)
     rw[V9.out,V8.out]
     obtain⟨hs,hhs⟩:∃hs:List Value,hs=mdCells F' s':=⟨_,rfl⟩
     obtain⟨rs,hrs⟩:∃rs:List Value,rs=rpCells r:=⟨_,rfl⟩
     rw[←hhs,←hrs]
     have HHS:=Lib.hid hhs
     have HRS:=Lib.hid hrs
     have S9A:=Lib.hid (show(Tryz.prog.info? 31).map (·.size)=some hs.toArray.size by rw[hhs];kernel_rfl)
     have L9:=Lib.hid (show hs.toArray.size=7 by rw[hhs];rfl)
     have O9:=Lib.hid (show hs.toArray.all (·.oneCell')=true by rw[hhs];simp[mdCells,Value.oneCell'])
     have S8A:=Lib.hid (show(Tryz.prog.info? 49).map (·.size)=some rs.toArray.size by rw[hrs];kernel_rfl)
     have L8:=Lib.hid (show rs.toArray.size=9 by rw[hrs];rfl)
     have O8:=Lib.hid (show rs.toArray.all (·.oneCell')=true by rw[hrs];simp[rpCells,Value.oneCell'])
     clear hhs hrs V9 V8
     go_wp2_with fail
     refine at_world (fun X=>(Below wq.heap.size wq X)∧(MdKeep lo X F' s')∧(BoxN X b8 31 #[.int .i64 0,.int .i64 0,.int .i64 0,.slice none 0 0,.int .i64 0,.slice none 0 0,.slice none 0 0]∧wq.heap.size≤b8)) ⟨S1.out.trans (hb.mono S1.out.size),HF.out,⟨B81.out.1.later hb,B81.out.2⟩⟩ fun x2 hx2=> ?_
     have S2:=Lib.hid (hx2.1)
     have KK2:=Lib.hid (hx2.2.1)
     have B82:=Lib.hid (hx2.2.2)
     clear hx2
     clear hb HF
     clear S1 B81
     refine hK.out _ _ ⟨S2.out, ?_⟩
     clear hK K
     refine wpAnyH_take (i:=6) (v:=.tuple #[.agg hs.toArray,.agg rs.toArray,.int .i64 f]) rfl (by decide+kernel) (by decide+kernel) (by decide+kernel) (fun _ _ _ h=>h) (.inl ⟨rfl,fun W hS=>by go_simp⟩) S2.out ?_
     refine wpAnyH_take (i:=7) (v:=.agg hs.toArray) rfl (by decide+kernel) (by decide+kernel) (by decide+kernel) (fun _ _ _ h=>h) (.inl ⟨rfl,fun W hS=>by go_simp⟩) S2.out ?_
     refine wpAnyH_take (i:=8) (v:=.agg rs.toArray) rfl (by decide+kernel) (by decide+kernel) (by decide+kernel) (fun _ _ _ h=>h) (.inl ⟨rfl,fun W hS=>by go_simp⟩) S2.out ?_
     refine wpAnyH_take (i:=9) (v:=.int .i64 f) rfl (by decide+kernel) (by decide+kernel) (by decide+kernel) (fun _ _ _ h=>h) (.inl ⟨rfl,fun W hS=>by go_simp⟩) S2.out ?_
     refine wpAnyH_all (rs:=[11]) (by kernel_rfl) (by simp) fun j hj=> ?_
     obtain rfl:j=11:=by simpa using hj
     clear hj
     refine heldOp rfl fun K hK=> ?_
     go_wp2_with fail
     obtain⟨b9,hq9⟩:∃q,x2.heap.size=q:=⟨_,rfl⟩
     try rw[hq9]
     refine at_world (fun X=>(Below wq.heap.size wq X)∧(MdKeep lo X F' s')∧(BoxN X b8 31 #[.int .i64 0,.int .i64 0,.int .i64 0,.slice none 0 0,.int .i64 0,.slice none 0 0,.slice none 0 0]∧wq.heap.size≤b8)∧(BoxN X b9 49 #[.int .i64 0,.int .i64 0,.int .i64 0,.int .i64 0,.int .u32 0,.int .u32 0,.int .u64 0,.int .u64 0,.int .i64 0]∧wq.heap.size≤b9)∧(b8≠b9)) ⟨S2.out.trans ((ba x2 (.cells #[.int .i64 0,.int .i64 0,.int .i64 0,.int .i64 0,.int .u32 0,.int .u32 0,.int .u64 0,.int .u64 0,.int .i64 0] 49)).mono S2.out.size),KK2.out.up (Loose.of (ba x2 (.cells #[.int .i64 0,.int .i64 0,.int .i64 0,.int .i64 0,.int .u32 0,.int .u32 0,.int .u64 0,.int .u64 0,.int .i64 0] 49))),⟨B82.out.1.alloc _,B82.out.2⟩,⟨(by rw[←hq9];exact BoxN.new _ _ _),(by rw[←hq9];exact S2.out.size)⟩,(by have:=B82.out.1.lt;omega)⟩ fun x3 hx3=> ?_
     have S3:=Lib.hid (hx3.1)
     have KK3:=Lib.hid (hx3.2.1)
     have B83:=Lib.hid (hx3.2.2.1)
     have B93:=Lib.hid (hx3.2.2.2.1)
     have N893:=Lib.hid (hx3.2.2.2.2)
     clear hx3
     clear hq9
     clear S2 KK2 B82
     refine hK.out _ _ ⟨S3.out, ?_⟩
     clear hK K
     refine wpAnyH_all (rs:=[12]) (by kernel_rfl) (by simp) fun j hj=> ?_
     obtain rfl:j=12:=by simpa using hj
     clear hj
     refine heldOp rfl fun K hK=> ?_
     go_wp2_with (refine wpList_store_row rfl 31 (.tmp 10) (.tmp 33) rfl b8 hs.toArray rfl rfl 31 _ B83.out.1 S9A.out L9.out.symm O9.out ?_)
     have hrow:=grownBy_setRow B83.out.1 (hs.toArray)
     have htag:=Tag.of_box B83.out.1
     have hle:=B83.out.2
     refine at_world (fun X=>(Below wq.heap.size wq X)∧(MdKeep lo X F' s')∧(BoxN X b8 31 hs.toArray∧wq.heap.size≤b8)∧(BoxN X b9 49 #[.int .i64 0,.int .i64 0,.int .i64 0,.int .i64 0,.int .u32 0,.int .u32 0,.int .u64 0,.int .u64 0,.int .i64 0]∧wq.heap.size≤b9)∧(b8≠b9)) ⟨S3.out.grown hrow.1 S3.out.size (fun k hk=>by injection hk with hk;omega),KK3.out.up (Loose.grown hrow.1 htag (by omega) (by decide) (by decide) (by decide)),⟨hrow.2,hle⟩,⟨B93.out.1.kept hrow.1 (fun e=>N893.out.symm (by injection e)),B93.out.2⟩,N893.out⟩ fun x4 hx4=> ?_
     have S4:=Lib.hid (hx4.1)
     have KK4:=Lib.hid (hx4.2.1)
     have B84:=Lib.hid (hx4.2.2.1)
     have B94:=Lib.hid (hx4.2.2.2.1)
     have N894:=Lib.hid (hx4.2.2.2.2)
     clear hx4
     clear hrow htag hle
     clear S3 KK3 B83 B93 N893
     refine hK.out _ _ ⟨S4.out, ?_⟩
     clear hK K
     refine wpAnyH_all (rs:=[13]) (by kernel_rfl) (by simp) fun j hj=> ?_
     obtain rfl:j=13:=by simpa using hj
     clear hj
     refine heldOp rfl fun K hK=> ?_
     go_wp2_with (refine wpList_store_row rfl 49 (.tmp 11) (.tmp 34) rfl b9 rs.toArray rfl rfl 49 _ B94.out.1 S8A.out L8.out.symm O8.out ?_)
     have hrow:=grownBy_setRow B94.out.1 (rs.toArray)
     have htag:=Tag.of_box B94.out.1
     have hle:=B94.out.2
     refine at_world (fun X=>(Below wq.heap.size wq X)∧(MdKeep lo X F' s')∧(BoxN X b8 31 hs.toArray∧wq.heap.size≤b8)∧(BoxN X b9 49 rs.toArray∧wq.heap.size≤b9)∧(b8≠b9)) ⟨S4.out.grown hrow.1 S4.out.size (fun k hk=>by injection hk with hk;omega),KK4.out.up (Loose.grown hrow.1 htag (by omega) (by decide) (by decide) (by decide)),⟨B84.out.1.kept hrow.1 (fun e=>N894.out (by injection e)),B84.out.2⟩,⟨hrow.2,hle⟩,N894.out⟩ fun x5 hx5=> ?_
     have S5:=Lib.hid (hx5.1)
     have KK5:=Lib.hid (hx5.2.1)
     have B85:=Lib.hid (hx5.2.2.1)
     have B95:=Lib.hid (hx5.2.2.2.1)
     have N895:=Lib.hid (hx5.2.2.2.2)
     clear hx5
     clear hrow htag hle
     clear S4 KK4 B84 B94 N894
     refine hK.out _ _ ⟨S5.out, ?_⟩
     clear hK K
     refine wpAnyH_take (i:=14) (v:=.int .i64 f) rfl (by decide+kernel) (by decide+kernel) (by decide+kernel) (fun _ _ _ h=>h) (.inl ⟨rfl,fun W hS=>by go_simp⟩) S5.out ?_
     refine wpAnyH_done (by kernel_rfl) ?_ _
     go_wp2_with fail
     go_meet
     exact⟨_,_,F',rfl,rfl,rfl,S5.out,KK5.out,by rw[←HHS.out];exact B85.out.1,B85.out.2,by rw[←HRS.out];exact B95.out.1,B95.out.2⟩
    ·refine heldOp rfl fun K hK=> ?_
     go_wp2_with fail
     obtain⟨b9,hq9⟩:∃q,x1.heap.size=q:=⟨_,rfl⟩
     try rw[hq9]
     refine at_world (fun X=>(Below wq.heap.size wq X)∧(BoxN X b8 31 #[.int .i64 0,.int .i64 0,.int .i64 0,.slice none 0 0,.int .i64 0,.slice none 0 0,.slice none 0 0]∧wq.heap.size≤b8)∧(BoxN X b9 49 #[.int .i64 0,.int .i64 0,.int .i64 0,.int .i64 0,.int .u32 0,.int .u32 0,.int .u64 0,.int .u64 0,.int .i64 0]∧wq.heap.size≤b9)∧(b8≠b9)) ⟨S1.out.trans ((ba x1 (.cells #[.int .i64 0,.int .i64 0,.int .i64 0,.int .i64 0,.int .u32 0,.int .u32 0,.int .u64 0,.int .u64 0,.int .i64 0] 49)).mono S1.out.size),⟨B81.out.1.alloc _,B81.out.2⟩,⟨(by rw[←hq9];exact BoxN.new _ _ _),(by rw[←hq9];exact S1.out.size)⟩,(by have:=B81.out.1.lt;omega)⟩ fun x2 hx2=> ?_
     have S2:=Lib.hid (hx2.1)
     have B82:=Lib.hid (hx2.2.1)
     have B92:=Lib.hid (hx2.2.2.1)
     have N892:=Lib.hid (hx2.2.2.2)
     clear hx2
     clear hq9
     clear S1 B81
     refine hK.out _ _ ⟨S2.out, ?_⟩
     clear hK K
     refine wpAnyH_all (rs:=[5]) (by kernel_rfl) (by simp) fun j hj=> ?_
     obtain rfl:j=5:=by simpa using hj
     clear hj
     refine heldOp rfl fun K hK=> ?_
     go_wp2_with fail
     refine(CD.out x2 S2.out).mono ?_
     rintro e y ⟨F',rfl,hb,hk⟩
     have HF:=Lib.hid (show MdKeep lo y F' s' from hk)
     clear hk
     have V9:=Lib.hid (show mdV F' s'=.agg (mdCells F' s').toArray from rfl)
     have V8:=Lib.hid (show RpV r=.agg (rpCells r).toArray from rfl)
     rw[V9.out,V8.out]
     obtain⟨hs,hhs⟩:∃hs:List Value,hs=mdCells F' s':=⟨_,rfl⟩
     obtain⟨rs,hrs⟩:∃rs:List Value,rs=rpCells r:=⟨_,rfl⟩
     rw[←hhs,←hrs]
     have HHS:=Lib.hid hhs
     have HRS:=Lib.hid hrs
     have S9A:=Lib.hid (show(Tryz.prog.info? 31).map (·.size)=some hs.toArray.size by rw[hhs];kernel_rfl)
     have L9:=Lib.hid (show hs.toArray.size=7 by rw[hhs];rfl)
     have O9:=Lib.hid (show hs.toArray.all (·.oneCell')=true by rw[hhs];simp[mdCells,Value.oneCell'])
     have S8A:=Lib.hid (show(Tryz.prog.info? 49).map (·.size)=some rs.toArray.size by rw[hrs];kernel_rfl)
     have L8:=Lib.hid (show rs.toArray.size=9 by rw[hrs];rfl)
     have O8:=Lib.hid (show rs.toArray.all (·.oneCell')=true by rw[hrs];simp[rpCells,Value.oneCell'])
     clear hhs hrs V9 V8
     go_wp2_with fail
     refine at_world (fun X=>(Below wq.heap.size wq X)∧(MdKeep lo X F' s')∧(BoxN X b8 31 #[.int .i64 0,.int .i64 0,.int .i64 0,.slice none 0 0,.int .i64 0,.slice none 0 0,.slice none 0 0]∧wq.heap.size≤b8)∧(BoxN X b9 49 #[.int .i64 0,.int .i64 0,.int .i64 0,.int .i64 0,.int .u32 0,.int .u32 0,.int .u64 0,.int .u64 0,.int .i64 0]∧wq.heap.size≤b9)∧(b8≠b9)) ⟨S2.out.trans (hb.mono S2.out.size),HF.out,⟨B82.out.1.later hb,B82.out.2⟩,⟨B92.out.1.later hb,B92.out.2⟩,N892.out⟩ fun x3 hx3=> ?_
     have S3:=Lib.hid (hx3.1)
     have KK3:=Lib.hid (hx3.2.1)
     have B83:=Lib.hid (hx3.2.2.1)
     have B93:=Lib.hid (hx3.2.2.2.1)
     have N893:=Lib.hid (hx3.2.2.2.2)
     clear hx3
     clear hb HF
     clear S2 B82 B92 N892
     refine hK.out _ _ ⟨S3.out, ?_⟩
     clear hK K
     refine wpAnyH_take (i:=6) (v:=.tuple #[.agg hs.toArray,.agg rs.toArray,.int .i64 f]) rfl (by decide+kernel) (by decide+kernel) (by decide+kernel) (fun _ _ _ h=>h) (.inl ⟨rfl,fun W hS=>by go_simp⟩) S3.out ?_
     refine wpAnyH_take (i:=7) (v:=.agg hs.toArray) rfl (by decide+kernel) (by decide+kernel) (by decide+kernel) (fun _ _ _ h=>h) (.inl ⟨rfl,fun W hS=>by go_simp⟩) S3.out ?_
     refine wpAnyH_take (i:=8) (v:=.agg rs.toArray) rfl (by decide+kernel) (by decide+kernel) (by decide+kernel) (fun _ _ _ h=>h) (.inl ⟨rfl,fun W hS=>by go_simp⟩) S3.out ?_
     refine wpAnyH_take (i:=9) (v:=.int .i64 f) rfl (by decide+kernel) (by decide+kernel) (by decide+kernel) (fun _ _ _ h=>h) (.inl ⟨rfl,fun W hS=>by go_simp⟩) S3.out ?_
     refine wpAnyH_all (rs:=[12]) (by kernel_rfl) (by simp) fun j hj=> ?_
     obtain rfl:j=12:=by simpa using hj
     clear hj
     refine heldOp rfl fun K hK=> ?_
     go_wp2_with (refine wpList_store_row rfl 31 (.tmp 10) (.tmp 33) rfl b8 hs.toArray rfl rfl 31 _ B83.out.1 S9A.out L9.out.symm O9.out ?_)
     have hrow:=grownBy_setRow B83.out.1 (hs.toArray)
     have htag:=Tag.of_box B83.out.1
     have hle:=B83.out.2
     refine at_world (fun X=>(Below wq.heap.size wq X)∧(MdKeep lo X F' s')∧(BoxN X b8 31 hs.toArray∧wq.heap.size≤b8)∧(BoxN X b9 49 #[.int .i64 0,.int .i64 0,.int .i64 0,.int .i64 0,.int .u32 0,.int .u32 0,.int .u64 0,.int .u64 0,.int .i64 0]∧wq.heap.size≤b9)∧(b8≠b9)) ⟨S3.out.grown hrow.1 S3.out.size (fun k hk=>by injection hk with hk;omega),KK3.out.up (Loose.grown hrow.1 htag (by omega) (by decide) (by decide) (by decide)),⟨hrow.2,hle⟩,⟨B93.out.1.kept hrow.1 (fun e=>N893.out.symm (by injection e)),B93.out.2⟩,N893.out⟩ fun x4 hx4=> ?_
     have S4:=Lib.hid (hx4.1)
     have KK4:=Lib.hid (hx4.2.1)
     have B84:=Lib.hid (hx4.2.2.1)
     have B94:=Lib.hid (hx4.2.2.2.1)
     have N894:=Lib.hid (hx4.2.2.2.2)
     clear hx4
     clear hrow htag hle
     clear S3 KK3 B83 B93 N893
     refine hK.out _ _ ⟨S4.out, ?_⟩
     clear hK K
     refine wpAnyH_all (rs:=[13]) (by kernel_rfl) (by simp) fun j hj=> ?_
     obtain rfl:j=13:=by simpa using hj
     clear hj
     refine heldOp rfl fun K hK=> ?_
     go_wp2_with (refine wpList_store_row rfl 49 (.tmp 11) (.tmp 34) rfl b9 rs.toArray rfl rfl 49 _ B94.out.1 S8A.out L8.out.symm O8.out ?_)
     have hrow:=grownBy_setRow B94.out.1 (rs.toArray)
     have htag:=Tag.of_box B94.out.1
     have hle:=B94.out.2
     refine at_world (fun X=>(Below wq.heap.size wq X)∧(MdKeep lo X F' s')∧(BoxN X b8 31 hs.toArray∧wq.heap.size≤b8)∧(BoxN X b9 49 rs.toArray∧wq.heap.size≤b9)∧(b8≠b9)) ⟨S4.out.grown hrow.1 S4.out.size (fun k hk=>by injection hk with hk;omega),KK4.out.up (Loose.grown hrow.1 htag (by omega) (by decide) (by decide) (by decide)),⟨B84.out.1.kept hrow.1 (fun e=>N894.out (by injection e)),B84.out.2⟩,⟨hrow.2,hle⟩,N894.out⟩ fun x5 hx5=> ?_
     have S5:=Lib.hid (hx5.1)
     have KK5:=Lib.hid (hx5.2.1)
     have B85:=Lib.hid (hx5.2.2.1)
     have B95:=Lib.hid (hx5.2.2.2.1)
     have N895:=Lib.hid (hx5.2.2.2.2)
     clear hx5
     clear hrow htag hle
     clear S4 KK4 B84 B94 N894
     refine hK.out _ _ ⟨S5.out, ?_⟩
     clear hK K
     refine wpAnyH_take (i:=14) (v:=.int .i64 f) rfl (by decide+kernel) (by decide+kernel) (by decide+kernel) (fun _ _ _ h=>h) (.inl ⟨rfl,fun W hS=>by go_simp⟩) S5.out ?_
     refine wpAnyH_done (by kernel_rfl) ?_ _
     go_wp2_with fail
     go_meet
     exact⟨_,_,F',rfl,rfl,rfl,S5.out,KK5.out,by rw[←HHS.out];exact B85.out.1,B85.out.2,by rw[←HRS.out];exact B95.out.1,B95.out.2⟩
   ·refine heldOp rfl fun K hK=> ?_
    go_wp2_with fail
    obtain⟨b9,hq9⟩:∃q,wq.heap.size=q:=⟨_,rfl⟩
    try rw[hq9]
    refine at_world (fun X=>(Below wq.heap.size wq X)∧(BoxN X b9 49 #[.int .i64 0,.int .i64 0,.int .i64 0,.int .i64 0,.int .u32 0,.int .u32 0,.int .u64 0,.int .u64 0,.int .i64 0]∧wq.heap.size≤b9)) ⟨HS0.trans ((ba wq.drew (.cells #[.int .i64 0,.int .i64 0,.int .i64 0,.int .i64 0,.int .u32 0,.int .u32 0,.int .u64 0,.int .u64 0,.int .i64 0] 49)).mono HS0.size),⟨(by rw[←hq9];exact BoxN.new _ _ _),(by rw[←hq9];exact HS0.size)⟩⟩ fun x1 hx1=> ?_
    have S1:=Lib.hid (hx1.1)
    have B91:=Lib.hid (hx1.2)
    clear hx1
    clear hq9
    refine hK.out _ _ ⟨S1.out, ?_⟩
    clear hK K
    refine wpAnyH_all (rs:=[5,10]) (by kernel_rfl) (by simp) fun j hj=> ?_
    simp only[List.mem_cons,List.not_mem_nil,or_false] at hj
    rcases hj with rfl|rfl
    ·refine heldOp rfl fun K hK=> ?_
     go_wp2_with fail
     refine(CD.out x1 S1.out).mono ?_
     rintro e y ⟨F',rfl,hb,hk⟩
     have HF:=Lib.hid (show MdKeep lo y F' s' from hk)
     clear hk
     have V9:=Lib.hid (show mdV F' s'=.agg (mdCells F' s').toArray from rfl)
     have V8:=Lib.hid (show RpV r=.agg (rpCells r).toArray from rfl)
     rw[V9.out,V8.out]
     obtain⟨hs,hhs⟩:∃hs:List Value,hs=mdCells F' s':=⟨_,rfl⟩
     obtain⟨rs,hrs⟩:∃rs:List Value,rs=rpCells r:=⟨_,rfl⟩
     rw[←hhs,←hrs]
     have HHS:=Lib.hid hhs
     have HRS:=Lib.hid hrs
     have S9A:=Lib.hid (show(Tryz.prog.info? 31).map (·.size)=some hs.toArray.size by rw[hhs];kernel_rfl)
     have L9:=Lib.hid (show hs.toArray.size=7 by rw[hhs];rfl)
     have O9:=Lib.hid (show hs.toArray.all (·.oneCell')=true by rw[hhs];simp[mdCells,Value.oneCell'])
     have S8A:=Lib.hid (show(Tryz.prog.info? 49).map (·.size)=some rs.toArray.size by rw[hrs];kernel_rfl)
     have L8:=Lib.hid (show rs.toArray.size=9 by rw[hrs];rfl)
     have O8:=Lib.hid (show rs.toArray.all (·.oneCell')=true by rw[hrs];simp[rpCells,Value.oneCell'])
     clear hhs hrs V9 V8
     go_wp2_with fail
     refine at_world (fun X=>(Below wq.heap.size wq X)∧(MdKeep lo X F' s')∧(BoxN X b9 49 #[.int .i64 0,.int .i64 0,.int .i64 0,.int .i64 0,.int .u32 0,.int .u32 0,.int .u64 0,.int .u64 0,.int .i64 0]∧wq.heap.size≤b9)) ⟨S1.out.trans (hb.mono S1.out.size),HF.out,⟨B91.out.1.later hb,B91.out.2⟩⟩ fun x2 hx2=> ?_
     have S2:=Lib.hid (hx2.1)
     have KK2:=Lib.hid (hx2.2.1)
     have B92:=Lib.hid (hx2.2.2)
     clear hx2
     clear hb HF
     clear S1 B91
     refine hK.out _ _ ⟨S2.out, ?_⟩
     clear hK K
     refine wpAnyH_take (i:=6) (v:=.tuple #[.agg hs.toArray,.agg rs.toArray,.int .i64 f]) rfl (by decide+kernel) (by decide+kernel) (by decide+kernel) (fun _ _ _ h=>h) (.inl ⟨rfl,fun W hS=>by go_simp⟩) S2.out ?_
     refine wpAnyH_take (i:=7) (v:=.agg hs.toArray) rfl (by decide+kernel) (by decide+kernel) (by decide+kernel) (fun _ _ _ h=>h) (.inl ⟨rfl,fun W hS=>by go_simp⟩) S2.out ?_
     refine wpAnyH_take (i:=8) (v:=.agg rs.toArray) rfl (by decide+kernel) (by decide+kernel) (by decide+kernel) (fun _ _ _ h=>h) (.inl ⟨rfl,fun W hS=>by go_simp⟩) S2.out ?_
     refine wpAnyH_take (i:=9) (v:=.int .i64 f) rfl (by decide+kernel) (by decide+kernel) (by decide+kernel) (fun _ _ _ h=>h) (.inl ⟨rfl,fun W hS=>by go_simp⟩) S2.out ?_
     refine wpAnyH_all (rs:=[10]) (by kernel_rfl) (by simp) fun j hj=> ?_
     obtain rfl:j=10:=by simpa using hj
     clear hj
     refine heldOp rfl fun K hK=> ?_
     go_wp2_with fail
     obtain⟨b8,hq8⟩:∃q,x2.heap.size=q:=⟨_,rfl⟩
     try rw[hq8]
     refine at_world (fun X=>(Below wq.heap.size wq X)∧(MdKeep lo X F' s')∧(BoxN X b8 31 #[.int .i64 0,.int .i64 0,.int .i64 0,.slice none 0 0,.int .i64 0,.slice none 0 0,.slice none 0 0]∧wq.heap.size≤b8)∧(BoxN X b9 49 #[.int .i64 0,.int .i64 0,.int .i64 0,.int .i64 0,.int .u32 0,.int .u32 0,.int .u64 0,.int .u64 0,.int .i64 0]∧wq.heap.size≤b9)∧(b8≠b9)) ⟨S2.out.trans ((ba x2 (.cells #[.int .i64 0,.int .i64 0,.int .i64 0,.slice none 0 0,.int .i64 0,.slice none 0 0,.slice none 0 0] 31)).mono S2.out.size),KK2.out.up (Loose.of (ba x2 (.cells #[.int .i64 0,.int .i64 0,.int .i64 0,.slice none 0 0,.int .i64 0,.slice none 0 0,.slice none 0 0] 31))),⟨(by rw[←hq8];exact BoxN.new _ _ _),(by rw[←hq8];exact S2.out.size)⟩,⟨B92.out.1.alloc _,B92.out.2⟩,(by have:=B92.out.1.lt;omega)⟩ fun x3 hx3=> ?_
     have S3:=Lib.hid (hx3.1)
     have KK3:=Lib.hid (hx3.2.1)
     have B83:=Lib.hid (hx3.2.2.1)
     have B93:=Lib.hid (hx3.2.2.2.1)
     have N893:=Lib.hid (hx3.2.2.2.2)
     clear hx3
     clear hq8
     clear S2 KK2 B92
     refine hK.out _ _ ⟨S3.out, ?_⟩
     clear hK K
     refine wpAnyH_all (rs:=[12]) (by kernel_rfl) (by simp) fun j hj=> ?_
     obtain rfl:j=12:=by simpa using hj
     clear hj
     refine heldOp rfl fun K hK=> ?_
     go_wp2_with (refine wpList_store_row rfl 31 (.tmp 10) (.tmp 33) rfl b8 hs.toArray rfl rfl 31 _ B83.out.1 S9A.out L9.out.symm O9.out ?_)
     have hrow:=grownBy_setRow B83.out.1 (hs.toArray)
     have htag:=Tag.of_box B83.out.1
     have hle:=B83.out.2
     refine at_world (fun X=>(Below wq.heap.size wq X)∧(MdKeep lo X F' s')∧(BoxN X b8 31 hs.toArray∧wq.heap.size≤b8)∧(BoxN X b9 49 #[.int .i64 0,.int .i64 0,.int .i64 0,.int .i64 0,.int .u32 0,.int .u32 0,.int .u64 0,.int .u64 0,.int .i64 0]∧wq.heap.size≤b9)∧(b8≠b9)) ⟨S3.out.grown hrow.1 S3.out.size (fun k hk=>by injection hk with hk;omega),KK3.out.up (Loose.grown hrow.1 htag (by omega) (by decide) (by decide) (by decide)),⟨hrow.2,hle⟩,⟨B93.out.1.kept hrow.1 (fun e=>N893.out.symm (by injection e)),B93.out.2⟩,N893.out⟩ fun x4 hx4=> ?_
     have S4:=Lib.hid (hx4.1)
     have KK4:=Lib.hid (hx4.2.1)
     have B84:=Lib.hid (hx4.2.2.1)
     have B94:=Lib.hid (hx4.2.2.2.1)
     have N894:=Lib.hid (hx4.2.2.2.2)
     clear hx4
     clear hrow htag hle
     clear S3 KK3 B83 B93 N893
     refine hK.out _ _ ⟨S4.out, ?_⟩
     clear hK K
     refine wpAnyH_all (rs:=[13]) (by kernel_rfl) (by simp) fun j hj=> ?_
     obtain rfl:j=13:=by simpa using hj
     clear hj
     refine heldOp rfl fun K hK=> ?_
     go_wp2_with (refine wpList_store_row rfl 49 (.tmp 11) (.tmp 34) rfl b9 rs.toArray rfl rfl 49 _ B94.out.1 S8A.out L8.out.symm O8.out ?_)
     have hrow:=grownBy_setRow B94.out.1 (rs.toArray)
     have htag:=Tag.of_box B94.out.1
     have hle:=B94.out.2
     refine at_world (fun X=>(Below wq.heap.size wq X)∧(MdKeep lo X F' s')∧(BoxN X b8 31 hs.toArray∧wq.heap.size≤b8)∧(BoxN X b9 49 rs.toArray∧wq.heap.size≤b9)∧(b8≠b9)) ⟨S4.out.grown hrow.1 S4.out.size (fun k hk=>by injection hk with hk;omega),KK4.out.up (Loose.grown hrow.1 htag (by omega) (by decide) (by decide) (by decide)),⟨B84.out.1.kept hrow.1 (fun e=>N894.out (by injection e)),B84.out.2⟩,⟨hrow.2,hle⟩,N894.out⟩ fun x5 hx5=> ?_
     have S5:=Lib.hid (hx5.1)
     have KK5:=Lib.hid (hx5.2.1)
     have B85:=Lib.hid (hx5.2.2.1)
     have B95:=Lib.hid (hx5.2.2.2.1)
     have N895:=Lib.hid (hx5.2.2.2.2)
     clear hx5
     clear hrow htag hle
     clear S4 KK4 B84 B94 N894
     refine hK.out _ _ ⟨S5.out, ?_⟩
     clear hK K
     refine wpAnyH_take (i:=14) (v:=.int .i64 f) rfl (by decide+kernel) (by decide+kernel) (by decide+kernel) (fun _ _ _ h=>h) (.inl ⟨rfl,fun W hS=>by go_simp⟩) S5.out ?_
     refine wpAnyH_done (by kernel_rfl) ?_ _
     go_wp2_with fail
     go_meet
     exact⟨_,_,F',rfl,rfl,rfl,S5.out,KK5.out,by rw[←HHS.out];exact B85.out.1,B85.out.2,by rw[←HRS.out];exact B95.out.1,B95.out.2⟩
    ·refine heldOp rfl fun K hK=> ?_
     go_wp2_with fail
     obtain⟨b8,hq8⟩:∃q,x1.heap.size=q:=⟨_,rfl⟩
     try rw[hq8]
     refine at_world (fun X=>(Below wq.heap.size wq X)∧(BoxN X b8 31 #[.int .i64 0,.int .i64 0,.int .i64 0,.slice none 0 0,.int .i64 0,.slice none 0 0,.slice none 0 0]∧wq.heap.size≤b8)∧(BoxN X b9 49 #[.int .i64 0,.int .i64 0,.int .i64 0,.int .i64 0,.int .u32 0,.int .u32 0,.int .u64 0,.int .u64 0,.int .i64 0]∧wq.heap.size≤b9)∧(b8≠b9)) ⟨S1.out.trans ((ba x1 (.cells #[.int .i64 0,.int .i64 0,.int .i64 0,.slice none 0 0,.int .i64 0,.slice none 0 0,.slice none 0 0] 31)).mono S1.out.size),⟨(by rw[←hq8];exact BoxN.new _ _ _),(by rw[←hq8];exact S1.out.size)⟩,⟨B91.out.1.alloc _,B91.out.2⟩,(by have:=B91.out.1.lt;omega)⟩ fun x2 hx2=> ?_
     have S2:=Lib.hid (hx2.1)
     have B82:=Lib.hid (hx2.2.1)
     have B92:=Lib.hid (hx2.2.2.1)
     have N892:=Lib.hid (hx2.2.2.2)
     clear hx2
     clear hq8
     clear S1 B91
     refine hK.out _ _ ⟨S2.out, ?_⟩
     clear hK K
     refine wpAnyH_all (rs:=[5]) (by kernel_rfl) (by simp) fun j hj=> ?_
     obtain rfl:j=5:=by simpa using hj
     clear hj
     refine heldOp rfl fun K hK=> ?_
     go_wp2_with fail
     refine(CD.out x2 S2.out).mono ?_
     rintro e y ⟨F',rfl,hb,hk⟩
     have HF:=Lib.hid (show MdKeep lo y F' s' from hk)
     clear hk
     have V9:=Lib.hid (show mdV F' s'=.agg (mdCells F' s').toArray from rfl)
     have V8:=Lib.hid (show RpV r=.agg (rpCells r).toArray from rfl)
     rw[V9.out,V8.out]
     obtain⟨hs,hhs⟩:∃hs:List Value,hs=mdCells F' s':=⟨_,rfl⟩
     obtain⟨rs,hrs⟩:∃rs:List Value,rs=rpCells r:=⟨_,rfl⟩
     rw[←hhs,←hrs]
     have HHS:=Lib.hid hhs
     have HRS:=Lib.hid hrs
     have S9A:=Lib.hid (show(Tryz.prog.info? 31).map (·.size)=some hs.toArray.size by rw[hhs];kernel_rfl)
     have L9:=Lib.hid (show hs.toArray.size=7 by rw[hhs];rfl)
     have O9:=Lib.hid (show hs.toArray.all (·.oneCell')=true by rw[hhs];simp[mdCells,Value.oneCell'])
     have S8A:=Lib.hid (show(Tryz.prog.info? 49).map (·.size)=some rs.toArray.size by rw[hrs];kernel_rfl)
     have L8:=Lib.hid (show rs.toArray.size=9 by rw[hrs];rfl)
     have O8:=Lib.hid (show rs.toArray.all (·.oneCell')=true by rw[hrs];simp[rpCells,Value.oneCell'])
     clear hhs hrs V9 V8
     go_wp2_with fail
     refine at_world (fun X=>(Below wq.heap.size wq X)∧(MdKeep lo X F' s')∧(BoxN X b8 31 #[.int .i64 0,.int .i64 0,.int .i64 0,.slice none 0 0,.int .i64 0,.slice none 0 0,.slice none 0 0]∧wq.heap.size≤b8)∧(BoxN X b9 49 #[.int .i64 0,.int .i64 0,.int .i64 0,.int .i64 0,.int .u32 0,.int .u32 0,.int .u64 0,.int .u64 0,.int .i64 0]∧wq.heap.size≤b9)∧(b8≠b9)) ⟨S2.out.trans (hb.mono S2.out.size),HF.out,⟨B82.out.1.later hb,B82.out.2⟩,⟨B92.out.1.later hb,B92.out.2⟩,N892.out⟩ fun x3 hx3=> ?_
     have S3:=Lib.hid (hx3.1)
     have KK3:=Lib.hid (hx3.2.1)
     have B83:=Lib.hid (hx3.2.2.1)
     have B93:=Lib.hid (hx3.2.2.2.1)
     have N893:=Lib.hid (hx3.2.2.2.2)
     clear hx3
     clear hb HF
     clear S2 B82 B92 N892
     refine hK.out _ _ ⟨S3.out, ?_⟩
     clear hK K
     refine wpAnyH_take (i:=6) (v:=.tuple #[.agg hs.toArray,.agg rs.toArray,.int .i64 f]) rfl (by decide+kernel) (by decide+kernel) (by decide+kernel) (fun _ _ _ h=>h) (.inl ⟨rfl,fun W hS=>by go_simp⟩) S3.out ?_
     refine wpAnyH_take (i:=7) (v:=.agg hs.toArray) rfl (by decide+kernel) (by decide+kernel) (by decide+kernel) (fun _ _ _ h=>h) (.inl ⟨rfl,fun W hS=>by go_simp⟩) S3.out ?_
     refine wpAnyH_take (i:=8) (v:=.agg rs.toArray) rfl (by decide+kernel) (by decide+kernel) (by decide+kernel) (fun _ _ _ h=>h) (.inl ⟨rfl,fun W hS=>by go_simp⟩) S3.out ?_
     refine wpAnyH_take (i:=9) (v:=.int .i64 f) rfl (by decide+kernel) (by decide+kernel) (by decide+kernel) (fun _ _ _ h=>h) (.inl ⟨rfl,fun W hS=>by go_simp⟩) S3.out ?_
     refine wpAnyH_all (rs:=[12]) (by kernel_rfl) (by simp) fun j hj=> ?_
     obtain rfl:j=12:=by simpa using hj
     clear hj
     refine heldOp rfl fun K hK=> ?_
     go_wp2_with (refine wpList_store_row rfl 31 (.tmp 10) (.tmp 33) rfl b8 hs.toArray rfl rfl 31 _ B83.out.1 S9A.out L9.out.symm O9.out ?_)
     have hrow:=grownBy_setRow B83.out.1 (hs.toArray)
     have htag:=Tag.of_box B83.out.1
     have hle:=B83.out.2
     refine at_world (fun X=>(Below wq.heap.size wq X)∧(MdKeep lo X F' s')∧(BoxN X b8 31 hs.toArray∧wq.heap.size≤b8)∧(BoxN X b9 49 #[.int .i64 0,.int .i64 0,.int .i64 0,.int .i64 0,.int .u32 0,.int .u32 0,.int .u64 0,.int .u64 0,.int .i64 0]∧wq.heap.size≤b9)∧(b8≠b9)) ⟨S3.out.grown hrow.1 S3.out.size (fun k hk=>by injection hk with hk;omega),KK3.out.up (Loose.grown hrow.1 htag (by omega) (by decide) (by decide) (by decide)),⟨hrow.2,hle⟩,⟨B93.out.1.kept hrow.1 (fun e=>N893.out.symm (by injection e)),B93.out.2⟩,N893.out⟩ fun x4 hx4=> ?_
     have S4:=Lib.hid (hx4.1)
     have KK4:=Lib.hid (hx4.2.1)
     have B84:=Lib.hid (hx4.2.2.1)
     have B94:=Lib.hid (hx4.2.2.2.1)
     have N894:=Lib.hid (hx4.2.2.2.2)
     clear hx4
     clear hrow htag hle
     clear S3 KK3 B83 B93 N893
     refine hK.out _ _ ⟨S4.out, ?_⟩
     clear hK K
     refine wpAnyH_all (rs:=[13]) (by kernel_rfl) (by simp) fun j hj=> ?_
     obtain rfl:j=13:=by simpa using hj
     clear hj
     refine heldOp rfl fun K hK=> ?_
     go_wp2_with (refine wpList_store_row rfl 49 (.tmp 11) (.tmp 34) rfl b9 rs.toArray rfl rfl 49 _ B94.out.1 S8A.out L8.out.symm O8.out ?_)
     have hrow:=grownBy_setRow B94.out.1 (rs.toArray)
     have htag:=Tag.of_box B94.out.1
     have hle:=B94.out.2
     refine at_world (fun X=>(Below wq.heap.size wq X)∧(MdKeep lo X F' s')∧(BoxN X b8 31 hs.toArray∧wq.heap.size≤b8)∧(BoxN X b9 49 rs.toArray∧wq.heap.size≤b9)∧(b8≠b9)) ⟨S4.out.grown hrow.1 S4.out.size (fun k hk=>by injection hk with hk;omega),KK4.out.up (Loose.grown hrow.1 htag (by omega) (by decide) (by decide) (by decide)),⟨B84.out.1.kept hrow.1 (fun e=>N894.out (by injection e)),B84.out.2⟩,⟨hrow.2,hle⟩,N894.out⟩ fun x5 hx5=> ?_
     have S5:=Lib.hid (hx5.1)
     have KK5:=Lib.hid (hx5.2.1)
     have B85:=Lib.hid (hx5.2.2.1)
     have B95:=Lib.hid (hx5.2.2.2.1)
     have N895:=Lib.hid (hx5.2.2.2.2)
     clear hx5
     clear hrow htag hle
     clear S4 KK4 B84 B94 N894
     refine hK.out _ _ ⟨S5.out, ?_⟩
     clear hK K
     refine wpAnyH_take (i:=14) (v:=.int .i64 f) rfl (by decide+kernel) (by decide+kernel) (by decide+kernel) (fun _ _ _ h=>h) (.inl ⟨rfl,fun W hS=>by go_simp⟩) S5.out ?_
     refine wpAnyH_done (by kernel_rfl) ?_ _
     go_wp2_with fail
     go_meet
     exact⟨_,_,F',rfl,rfl,rfl,S5.out,KK5.out,by rw[←HHS.out];exact B85.out.1,B85.out.2,by rw[←HRS.out];exact B95.out.1,B95.out.2⟩
  case rest=>
  obtain⟨b8,b9,F',rfl,rfl,rfl,hb,hkn,h8,hl8,h9,hl9⟩:=hcut
  rename World=>wc
  have B5:=Lib.hid (HB.out.trans (hb.mono HB.out.size))
  have Z2:=Lib.hid (HS.out.later hb)
  have ZV:=Lib.hid (HV.out.up hb)
  have ZK:=Lib.hid hkn
  have ZO:=Lib.hid (HK.out.up (Loose.of hb))
  have Z8:=Lib.hid h8
  have Z9:=Lib.hid h9
  have n8:q<b8:=by have:=HS.out.lt;omega
  have n9:q<b9:=by have:=HS.out.lt;omega
  have hblc:bl<wc.heap.size:=Nat.lt_of_lt_of_le hbl hb.size
  clear hb hkn h8 hl8 h9 hl9 HAT CD HS HV HK HB
  by_cases hf:f=0
  case neg=>
   have t1:(f !=0)=true:=by simpa using hf
   rw[if_pos hf] at HNX
   clear hf
   go_wp2_with fail
   exact⟨⟨k+1,Fk,by omega,by go_num,by rw[HNX.out];exact ZV,B5,by rw[HNX.out,←HMS.out];exact Z2,by rw[HNX.out];exact ZO⟩,by simp[intOf];omega⟩
  have t1:(f !=0)=false:=by simpa using hf
  rw[if_neg (by simpa using hf)] at HNX
  clear hf
  have S7N:=Lib.hid (show(Tryz.prog.info? 31).map (·.size)=some (mdCells F' s').length by kernel_rfl)
  have S7A:=Lib.hid (show(Tryz.prog.info? 31).map (·.size)=some (mdCells F' s').toArray.size by kernel_rfl)
  have O7:=Lib.hid (show(mdCells F' s').toArray.all (·.oneCell')=true by simp[mdCells,Value.oneCell'])
  have S9:=Lib.hid (show(Tryz.prog.info? 49).map (·.size)=some (rpCells r).length by kernel_rfl)
  go_upto_region 11 with(first|refine wpList_load_mid rfl 31 (.tmp 10) rfl b8 0 rfl (mdCells F' s') _ Z8.out.range2 Tryz.underlying31 rfl S7N.out ?_|refine wpList_store_row rfl 31 (.tmp 6) (.tmp 38) rfl q (mdCells F' s').toArray rfl rfl 31 _ Z2.out S7A.out LM.out O7.out ?_)
  have hrow:=grownBy_setRow Z2.out (mdCells F' s').toArray
  refine at_world (fun X=>Below w.heap.size w X∧BoxN X q 31 (mdCells F' s').toArray∧BoxN X b9 49 (rpCells r).toArray∧Own stR 73 lo X u8 rk∧MdKeep lo X F' s'∧bl<X.heap.size) ⟨B5.out.grown hrow.1 B5.out.size (fun k hk=>by injection hk with hk;omega),hrow.2,Z9.out.kept hrow.1 (fun e=>by injection e with e;omega),ZV.out.kept_box hrow.1 Z2.out (by decide) stR_flat,ZK.out.up (Loose.grown hrow.1 (Tag.of_box Z2.out) (by omega) (by decide) (by decide) (by decide)),Nat.lt_of_lt_of_le hblc hrow.1.size⟩ fun x4 hx=> ?_
  have V5:=Lib.hid hx.1
  have V2:=Lib.hid hx.2.1
  have V9:=Lib.hid hx.2.2.1
  have VV:=Lib.hid hx.2.2.2.1
  have VK:=Lib.hid hx.2.2.2.2.1
  have hbl4:=hx.2.2.2.2.2
  clear hrow hx B5 Z2 ZV ZK Z8 Z9 LM HMS ZO hbl hblc
  have hgo:=V5.out.size
  have hlo4:lo≤x4.drew.heap.size:=Nat.le_trans hlq (Nat.le_of_lt V2.out.lt)
  obtain⟨ki,ow,ti,se,sc,nn,ot,⟨ts,tow,tse,te⟩,nw⟩:=op
  obtain⟨er,rse,rn,dl,⟨us,uo,use_,ue⟩,pl⟩:=r
  have hos9:os=[.int .i64 ki,.int .u32 ow,.int .i64 ti,.int .i64 se,.int .i64 sc,.int .i64 nn,.int .u32 ot,.int .u32 ts,.int .u32 tow,.int .u64 tse,.int .u64 te,.int .i64 nw]:=HOS.out
  subst hos9
  have hr9:rpCells ⟨er,rse,rn,dl,⟨us,uo,use_,ue⟩,pl⟩=[.int .i64 er,.int .i64 rse,.int .i64 rn,.int .i64 dl,.int .u32 us,.int .u32 uo,.int .u64 use_,.int .u64 ue,.int .i64 pl]:=rfl
  rw[hr9] at S9 V9
  obtain⟨A8,c8,rfl,_,_,hv8⟩:=VV.out.form
  have VF:=Lib.hid hv8
  clear hv8 VV
  refine wp_region_held (S:=fun X=>Below w.heap.size w X∧BoxN X b9 49 [.int .i64 er,.int .i64 rse,.int .i64 rn,.int .i64 dl,.int .u32 us,.int .u32 uo,.int .u64 use_,.int .u64 ue,.int .i64 pl].toArray∧bl<X.heap.size) (by kernel_rfl) ?_
  have HS0:Below w.heap.size w x4.drew∧BoxN x4.drew b9 49 [.int .i64 er,.int .i64 rse,.int .i64 rn,.int .i64 dl,.int .u32 us,.int .u32 uo,.int .u64 use_,.int .u64 ue,.int .i64 pl].toArray∧bl<x4.drew.heap.size:=⟨bdd V5.out,V9.out,hbl4⟩
  refine wpAnyH_take (i:=0) (v:=.slice A8 rk.length c8) rfl (by decide+kernel) (by decide+kernel) (by decide+kernel) (fun _ _ _ h=>h) (.inl ⟨rfl,fun W hS=>by go_simp⟩) HS0 ?_
  refine wpAnyH_take (i:=1) (v:=.slice (some ⟨bl,off,none⟩) ops.length c) rfl (by decide+kernel) (by decide+kernel) (by decide+kernel) (fun _ _ _ h=>h) (.inl ⟨rfl,fun W hS=>by go_simp⟩) HS0 ?_
  refine wpAnyH_take (i:=2) (v:=.int .i64 (k:Int)) rfl (by decide+kernel) (by decide+kernel) (by decide+kernel) (fun _ _ _ h=>h) (.inl ⟨rfl,fun W hS=>by go_simp⟩) HS0 ?_
  refine wpAnyH_take (i:=3) (v:=.pointer (some ⟨bl,off+k*12,none⟩)) rfl (by decide+kernel) (by decide+kernel) (by decide+kernel) (fun _ _ _ h=>h) (.inl ⟨rfl,fun W hS=>by have hbx:=hS.2.2;go_simp⟩) HS0 ?_
  refine wpAnyH_take (i:=4) rfl (by decide+kernel) (by decide+kernel) (by decide+kernel) (fun _ _ _ h=>h) (yieldsIf_load_mid rfl 46 (.tmp 42) rfl (bl) (off+k*12) rfl ([.int .i64 ki,.int .u32 ow,.int .i64 ti,.int .i64 se,.int .i64 sc,.int .i64 nn,.int .u32 ot,.int .u32 ts,.int .u32 tow,.int .u64 tse,.int .u64 te,.int .i64 nw]) _ (fun X hX=>range_later hX.1 HAT0.out) Tryz.underlying46 rfl (S2.out)) HS0 ?_
  refine wpAnyH_take (i:=5) rfl (by decide+kernel) (by decide+kernel) (by decide+kernel) (fun _ _ _ h=>h) (yieldsIf_load_mid rfl 49 (.tmp 11) rfl (b9) (0) rfl ([.int .i64 er,.int .i64 rse,.int .i64 rn,.int .i64 dl,.int .u32 us,.int .u32 uo,.int .u64 use_,.int .u64 ue,.int .i64 pl]) _ (fun X hX=>hX.2.1.range2) Tryz.underlying49 rfl (S9.out)) HS0 ?_
  refine wpAnyH_take (i:=6) (v:=.agg #[.int .i64 ki,.int .u32 ow,.int .i64 ti,.int .i64 se,.int .i64 sc,.int .i64 nn,.int .u32 ot,.int .u32 ts,.int .u32 tow,.int .u64 tse,.int .u64 te,.int .i64 nw,.int .i64 er,.int .i64 rse,.int .i64 rn,.int .i64 dl,.int .u32 us,.int .u32 uo,.int .u64 use_,.int .u64 ue,.int .i64 pl]) rfl (by decide+kernel) (by decide+kernel) (by decide+kernel) (fun _ _ _ h=>h) (.inl ⟨rfl,fun W hS=>by go_simp⟩) HS0 ?_
  refine wpAnyH_all (rs:=[7]) (by kernel_rfl) (by simp) fun j hj=> ?_
  obtain rfl:j=7:=by simpa using hj
  clear hj
  refine heldOp rfl fun K hK=> ?_
  go_wp2_with fail
  have hba:=ba x4.drew (.cells #[.int .i64 ki,.int .u32 ow,.int .i64 ti,.int .i64 se,.int .i64 sc,.int .i64 nn,.int .u32 ot,.int .u32 ts,.int .u32 tow,.int .u64 tse,.int .u64 te,.int .i64 nw,.int .i64 er,.int .i64 rse,.int .i64 rn,.int .i64 dl,.int .u32 us,.int .u32 uo,.int .u64 use_,.int .u64 ue,.int .i64 pl] 73)
  have HS1:Below w.heap.size w (x4.drew.alloc (.cells #[.int .i64 ki,.int .u32 ow,.int .i64 ti,.int .i64 se,.int .i64 sc,.int .i64 nn,.int .u32 ot,.int .u32 ts,.int .u32 tow,.int .u64 tse,.int .u64 te,.int .i64 nw,.int .i64 er,.int .i64 rse,.int .i64 rn,.int .i64 dl,.int .u32 us,.int .u32 uo,.int .u64 use_,.int .u64 ue,.int .i64 pl] 73))∧BoxN (x4.drew.alloc (.cells #[.int .i64 ki,.int .u32 ow,.int .i64 ti,.int .i64 se,.int .i64 sc,.int .i64 nn,.int .u32 ot,.int .u32 ts,.int .u32 tow,.int .u64 tse,.int .u64 te,.int .i64 nw,.int .i64 er,.int .i64 rse,.int .i64 rn,.int .i64 dl,.int .u32 us,.int .u32 uo,.int .u64 use_,.int .u64 ue,.int .i64 pl] 73)) b9 49 [.int .i64 er,.int .i64 rse,.int .i64 rn,.int .i64 dl,.int .u32 us,.int .u32 uo,.int .u64 use_,.int .u64 ue,.int .i64 pl].toArray∧bl<(x4.drew.alloc (.cells #[.int .i64 ki,.int .u32 ow,.int .i64 ti,.int .i64 se,.int .i64 sc,.int .i64 nn,.int .u32 ot,.int .u32 ts,.int .u32 tow,.int .u64 tse,.int .u64 te,.int .i64 nw,.int .i64 er,.int .i64 rse,.int .i64 rn,.int .i64 dl,.int .u32 us,.int .u32 uo,.int .u64 use_,.int .u64 ue,.int .i64 pl] 73)).heap.size:=⟨HS0.1.trans (hba.mono HS0.1.size),HS0.2.1.later hba,Nat.lt_of_lt_of_le hbl4 hba.size⟩
  have hsl:=st_one x4.drew x4.drew.heap.size (⟨ki,ow,ti,se,sc,nn,ot,⟨ts,tow,tse,te⟩,nw⟩,⟨er,rse,rn,dl,⟨us,uo,use_,ue⟩,pl⟩) rfl ⟨HOO.out,HRP.out⟩
  have hvv:=(VF.out.up (bdd (Below.refl _ _):Below x4.heap.size x4 x4.drew)).up hba
  have hqq:=(V2.out.later (bdd (Below.refl _ _):Below x4.heap.size x4 x4.drew)).later hba
  have hkk:=(VK.out.up (Loose.of (bdd (Below.refl _ _):Below x4.heap.size x4 x4.drew))).up (Loose.of hba)
  have hszz:lo≤(x4.drew.alloc (.cells #[.int .i64 ki,.int .u32 ow,.int .i64 ti,.int .i64 se,.int .i64 sc,.int .i64 nn,.int .u32 ot,.int .u32 ts,.int .u32 tow,.int .u64 tse,.int .u64 te,.int .i64 nw,.int .i64 er,.int .i64 rse,.int .i64 rn,.int .i64 dl,.int .u32 us,.int .u32 uo,.int .u64 use_,.int .u64 ue,.int .i64 pl] 73)).heap.size:=Nat.le_trans hlo4 hba.size
  refine hK.out _ _ ⟨HS1, ?_⟩
  clear hK K HS0
  refine wpAnyH_all (rs:=[8]) (by kernel_rfl) (by simp) fun j hj=> ?_
  obtain rfl:j=8:=by simpa using hj
  clear hj
  refine heldOp rfl fun K hK=> ?_
  refine wpList_append_sl _ rfl (.tmp 39) (.tmp 46) 53 rfl stR lo 73 _ 152 Tryz.underlying53 infoSt rfl (by decide) _ rk rfl hvv _ [(⟨ki,ow,ti,se,sc,nn,ot,⟨ts,tow,tse,te⟩,nw⟩,⟨er,rse,rn,dl,⟨us,uo,use_,ue⟩,pl⟩)] rfl hsl (by simp;omega) (by decide) hszz (fun w' _ cs y h=>stR_flat _ _ _ _ h) ?_
  intro v1 w7 hown1 hg1 hat1
  refine wpList_nil ?_
  have HS2:Below w.heap.size w w7∧BoxN w7 b9 49 [.int .i64 er,.int .i64 rse,.int .i64 rn,.int .i64 dl,.int .u32 us,.int .u32 uo,.int .u64 use_,.int .u64 ue,.int .i64 pl].toArray∧bl<w7.heap.size:=⟨HS1.1.grown hg1 HS1.1.size (fun j hj=>Nat.le_trans hwlo (hvv.lt j hj).1),HS1.2.1.kept_own hg1 hvv (by decide),Nat.lt_of_lt_of_le HS1.2.2 hg1.size⟩
  refine hK.out _ _ ⟨HS2, ?_⟩
  clear hK K
  refine wpAnyH_take (i:=9) (v:=v1) rfl (by decide+kernel) (by decide+kernel) (by decide+kernel) (fun _ _ _ h=>h) (.inl ⟨rfl,fun W hS=>by go_simp⟩) HS2 ?_
  refine wpAnyH_done (by kernel_rfl) ?_ _
  go_wp2_with fail
  exact⟨⟨k+1,F',by omega,by go_num,by rw[HNX.out];exact Lib.hid hown1,Lib.hid HS2.1,by rw[HNX.out];exact Lib.hid (hqq.kept_own hg1 hvv (by decide)),by rw[HNX.out];exact Lib.hid (hkk.up (Loose.own hg1 hvv (Nat.le_refl _) (by decide) (by decide) (by decide)))⟩,by simp[intOf];omega⟩
end Go.Proofs.YtlckmjiioohcmaaGreatDoor

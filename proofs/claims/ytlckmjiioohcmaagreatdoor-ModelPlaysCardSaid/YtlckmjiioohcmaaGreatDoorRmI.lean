/-
  Walks of groundlingref23.New, Play: they answer as model.New, Play. Conditions: as each theorem says.
-/
import Derived.Test.YtlckmjiioohcmaaGreatDoorRmH
import Derived.Test.YtlckmjiioohcmaaGreatDoorLmE
import Derived.Deep.CutRange
namespace Go.Proofs.YtlckmjiioohcmaaGreatDoor
open Go.RowKit
structure RnAt (W w:World) (x:Ve) (V:Option Addr) (vc k b g:Nat) (u:Value) (n:Nat):Prop where
 bw:Below W.heap.size W w
 kv:BoxN w W.heap.size 24 #[.int .i64 x.shards,.int .i64 x.ttl,.int .i64 x.session,.slice V x.secs.length vc]
 kr:BoxN w (W.heap.size+1) 31 #[.int .i64 0,.int .i64 0,.int .i64 0,.slice none 0 0,.int .i64 0,.slice none 0 0,.slice none 0 0]
 kb:BoxN w b 31 #[.int .i64 x.shards,.int .i64 x.ttl,.int .i64 x.session,.slice V x.secs.length vc,.int .i64 0,.slice (some ⟨g,0,none⟩) k k,u]
 os:Own sxR 81 W.heap.size w (.slice (some ⟨g,0,none⟩) k k) (List.replicate k zeroSx)
 qs:Own vaR 85 W.heap.size w u (List.replicate n (.slice none 0 0))
 lt:W.heap.size+1<b
theorem nil_lists {w:World} {v:Value} {n:Nat} (h:Sl vaR w v (List.replicate n (.slice none 0 0))):Sl quR w v (List.replicate n []):=by
 obtain⟨A,c,rfl,h1,h2,h3⟩:=h
 refine⟨A,c,by simp,by simpa using h1,h2, ?_⟩
 rcases h3 with⟨h3,h4⟩|⟨b,off,hA,hlt,hcells⟩
 ·exact .inl ⟨by simpa using h3,h4⟩
 ·refine .inr ⟨b,off,hA,hlt,fun i l hi=> ?_⟩
  rw[List.getElem?_replicate] at hi
  split at hi
  ·rename_i hin
   injection hi with hi
   subst hi
   obtain⟨cs,⟨rfl,_⟩,h7⟩:=hcells i (.slice none 0 0) (by rw[List.getElem?_replicate,if_pos hin])
   exact⟨_,⟨none,0,rfl,Sl.none _ _⟩,h7⟩
  ·cases hi
theorem rn_at1 {W w1:World} {x:Ve} {V:Option Addr} {vc k:Nat} (hb:Below W.heap.size W w1) (kv:BoxN w1 W.heap.size 24 #[.int .i64 x.shards,.int .i64 x.ttl,.int .i64 x.session,.slice V x.secs.length vc]) (kr:BoxN w1 (W.heap.size+1) 31 #[.int .i64 0,.int .i64 0,.int .i64 0,.slice none 0 0,.int .i64 0,.slice none 0 0,.slice none 0 0]) (hk:k≤1000000):
 RnAt W ((w1.alloc (.cells (madeCells zeroX (k*5)) 81)).alloc (.cells #[.int .i64 x.shards,.int .i64 x.ttl,.int .i64 x.session,.slice V x.secs.length vc,.int .i64 0,.slice (some ⟨w1.heap.size,0,none⟩) k k,.slice none 0 0] 31)).drew x V vc k (w1.heap.size+1) w1.heap.size (.slice none 0 0) 0:=by
 have hs1:(w1.alloc (.cells (madeCells zeroX (k*5)) 81)).heap.size=w1.heap.size+1:=by simp
 have hz:Below w1.heap.size w1 ((w1.alloc (.cells (madeCells zeroX (k*5)) 81)).alloc (.cells #[.int .i64 x.shards,.int .i64 x.ttl,.int .i64 x.session,.slice V x.secs.length vc,.int .i64 0,.slice (some ⟨w1.heap.size,0,none⟩) k k,.slice none 0 0] 31)).drew:=(bal (ba _ _)).drew
 have kn:BoxN ((w1.alloc (.cells (madeCells zeroX (k*5)) 81)).alloc (.cells #[.int .i64 x.shards,.int .i64 x.ttl,.int .i64 x.session,.slice V x.secs.length vc,.int .i64 0,.slice (some ⟨w1.heap.size,0,none⟩) k k,.slice none 0 0] 31)) (w1.heap.size+1) 31 #[.int .i64 x.shards,.int .i64 x.ttl,.int .i64 x.session,.slice V x.secs.length vc,.int .i64 0,.slice (some ⟨w1.heap.size,0,none⟩) k k,.slice none 0 0]:=hs1▸BoxN.new _ _ _
 have ho:=(own_seats w1 k hk).mono hb.size
 have l1:=kr.lt
 have hd:∀X:World,Below X.heap.size X X.drew:=fun X=>bdd (Below.refl _ _)
 exact⟨hb.trans (hz.mono hb.size),kv.later hz,kr.later hz,kn.later (hd _),(ho.up (ba _ _)).up (hd _),Own.nil _ _ _ _,by omega⟩
theorem rn_at2 {W w1:World} {x:Ve} {V:Option Addr} {vc k:Nat} (hb:Below W.heap.size W w1) (kv:BoxN w1 W.heap.size 24 #[.int .i64 x.shards,.int .i64 x.ttl,.int .i64 x.session,.slice V x.secs.length vc]) (kr:BoxN w1 (W.heap.size+1) 31 #[.int .i64 0,.int .i64 0,.int .i64 0,.slice none 0 0,.int .i64 0,.slice none 0 0,.slice none 0 0]) (hk:k≤1000000):
 RnAt W ((w1.alloc (.cells #[.int .i64 x.shards,.int .i64 x.ttl,.int .i64 x.session,.slice V x.secs.length vc,.int .i64 0,.slice (some ⟨w1.heap.size+1,0,none⟩) k k,.slice none 0 0] 31)).alloc (.cells (madeCells zeroX (k*5)) 81)).drew x V vc k w1.heap.size (w1.heap.size+1) (.slice none 0 0) 0:=by
 have hs1:(w1.alloc (.cells #[.int .i64 x.shards,.int .i64 x.ttl,.int .i64 x.session,.slice V x.secs.length vc,.int .i64 0,.slice (some ⟨w1.heap.size+1,0,none⟩) k k,.slice none 0 0] 31)).heap.size=w1.heap.size+1:=by simp
 have hz:Below w1.heap.size w1 ((w1.alloc (.cells #[.int .i64 x.shards,.int .i64 x.ttl,.int .i64 x.session,.slice V x.secs.length vc,.int .i64 0,.slice (some ⟨w1.heap.size+1,0,none⟩) k k,.slice none 0 0] 31)).alloc (.cells (madeCells zeroX (k*5)) 81)).drew:=(bal (ba _ _)).drew
 have kn:BoxN (w1.alloc (.cells #[.int .i64 x.shards,.int .i64 x.ttl,.int .i64 x.session,.slice V x.secs.length vc,.int .i64 0,.slice (some ⟨w1.heap.size+1,0,none⟩) k k,.slice none 0 0] 31)) w1.heap.size 31 #[.int .i64 x.shards,.int .i64 x.ttl,.int .i64 x.session,.slice V x.secs.length vc,.int .i64 0,.slice (some ⟨w1.heap.size+1,0,none⟩) k k,.slice none 0 0]:=BoxN.new _ _ _
 have ho:=(own_seats (w1.alloc (.cells #[.int .i64 x.shards,.int .i64 x.ttl,.int .i64 x.session,.slice V x.secs.length vc,.int .i64 0,.slice (some ⟨w1.heap.size+1,0,none⟩) k k,.slice none 0 0] 31)) k hk).mono (B':=W.heap.size) (by have:=hb.size;omega)
 rw[hs1] at ho
 have l1:=kr.lt
 have hd:∀X:World,Below X.heap.size X X.drew:=fun X=>bdd (Below.refl _ _)
 exact⟨hb.trans (hz.mono hb.size),kv.later hz,kr.later hz,(kn.later (ba _ _)).later (hd _),ho.up (hd _),Own.nil _ _ _ _,by omega⟩
theorem RnAt.more {W w X:World} {x:Ve} {V:Option Addr} {vc k b g n:Nat} {u u':Value} (h:RnAt W w x V vc k b g u n) {ob:Obj} (hg:(w.alloc ob).grownBy X u.ownBlock) (ho:Own vaR 85 W.heap.size X u' (List.replicate n (.slice none 0 0)++[.slice none 0 0])):
 RnAt W (X.setCell ⟨b,6,none⟩ u') x V vc k b g u' (n+1)∧X.cell? ⟨b,6,none⟩=some u∧X.frozen? ⟨b,6,none⟩=false∧b<X.heap.size:=by
 have hq:=h.qs.up (ba w ob)
 have hba:=ba w ob
 have kb:=(h.kb.later hba).kept_own hg hq (by decide)
 have hc:=grownBy_set X b 6 u'
 have hX:Below W.heap.size W X:=(h.bw.trans (hba.mono h.bw.size)).grown hg (Nat.le_trans h.bw.size hba.size) (fun j hj=>(hq.lt j hj).1)
 have l:=h.lt
 have ho':Own vaR 85 W.heap.size X u' (List.replicate (n+1) (.slice none 0 0)):=by rw[List.replicate_succ'];exact ho
 refine⟨⟨hX.grown hc hX.size (fun j hj=>by injection hj with hj;omega), ?_, ?_,kb.set 6 u', ?_, ?_,l⟩,kb.cell 6 _ rfl,kb.frozen 6,kb.lt⟩
 ·exact((h.kv.later hba).kept_own hg hq (by decide)).kept hc (fun e=>by injection e with e;omega)
 ·exact((h.kr.later hba).kept_own hg hq (by decide)).kept hc (fun e=>by injection e with e;omega)
 ·exact((h.os.up hba).kept hg (fun k hk e=>(h.os.up hba).apart hq (by decide) k hk e) (fun cs y h=>sxR_flat _ _ _ _ h)).kept_box hc kb (by decide) sxR_flat
 ·exact ho'.kept_box hc kb (by decide) vaR_flat
set_option maxRecDepth 20000 in
set_option maxHeartbeats 8000000 in
theorem rNew_any {W:World} {V:Option Addr} {vc:Nat} {x:Ve} (hv:Sl secR W (.slice V x.secs.length vc) x.secs) (h1:Bd x.shards) (h2:Bd x.ttl) (h3:Bd x.session):
 Calls Tryz.prog 10 #[.agg #[.int .i64 x.shards,.int .i64 x.ttl,.int .i64 x.session,.slice V x.secs.length vc]] W (NewPost W x):=by
 have C1:=Lib.hid (fun w (hw:Below W.heap.size W w)=>rseats_any (x:=x) (hv.up hw))
 have hT:=Lib.hid (show newM x=if(seatsV x).2≠0 then(zeroMd,(seatsV x).2) else(⟨x,0,List.replicate (seatsV x).1.toNat zeroSx,List.replicate x.secs.length []⟩,0) from rfl)
 have hok:=Lib.hid (show(seatsV x).2=0→0≤(seatsV x).1∧(seatsV x).1≤4096∧x.secs.length≤8 by
  intro h
  unfold seatsV at h⊢
  by_cases hc:(checkV x).2≠0
  ·rw[if_pos hc] at h;exact absurd h hc
  ·rw[if_neg hc]
   have h4:=checkV_ok (Decidable.not_not.1 hc)
   refine⟨?_,h4.2.1,h4.1.1⟩
   have h5:=upTo_bd (k:=x.secs.length) (Nat.le_refl _) fun i hi _=>h4.1.2 i hi
   have h6:upTo x.secs x.secs.length=sum (allRows x):=by simp[upTo,allRows]
   omega)
 have hx:=Lib.hid (show Sl secR W (.slice V x.secs.length vc) x.secs from hv)
 generalize seatsV x=E at C1 hT hok
 obtain⟨n,e⟩:=E
 simp only at C1 hT hok
 have hbd:=Lib.hid (And.intro h1 (And.intro h2 h3))
 clear hv h1 h2 h3
 go_enter Tryz.func10,Tryz.ntmps10
 go_wp2_with fail
 refine(C1.out _ (bal (ba _ _))).mono ?_
 rintro e1 w1 ⟨rfl,hb⟩
 have tb:=two_boxes (W:=W) rfl #[.int .i64 x.shards,.int .i64 x.ttl,.int .i64 x.session,.slice V x.secs.length vc] #[.int .i64 0,.int .i64 0,.int .i64 0,.slice none 0 0,.int .i64 0,.slice none 0 0,.slice none 0 0] 24 31
 have HB:=Lib.hid (tb.1.trans (hb.mono tb.1.size))
 have K1:=Lib.hid (tb.2.1.later hb)
 have K2:=Lib.hid (tb.2.2.later hb)
 clear hb tb C1
 have k1:=K1.out
 have k2:=K2.out
 obtain⟨d0,f0,d1,f1,d2,f2,d3,f3,d4,f4,d5,f5,d6,f6,-⟩:=k2.x7
 have c0:=k1.cell 0 _ rfl
 have c1:=k1.cell 1 _ rfl
 have c2:=k1.cell 2 _ rfl
 have c3:=k1.cell 3 _ rfl
 have y1:=k1.lt
 have y2:=k2.lt
 clear k1 k2
 by_cases he:e=0
 case neg=>
  have t0:(e !=0)=true:=by simpa using he
  have hN:=Lib.hid (show newM x=(zeroMd,e) by rw[hT.out,if_pos he])
  go_wp2_with fail
  obtain⟨k3,hg⟩:=(show Cells w1 (W.heap.size+1) [.int .i64 0,.int .i64 0,.int .i64 0,.slice none 0 0,.int .i64 0,.slice none 0 0,.slice none 0 0] from⟨fun i u hu=>K2.out.cell i u (by simpa using hu),fun i=>K2.out.frozen i,K2.out.lt⟩).put [.int .i64 0,.int .i64 0,.int .i64 0,.slice none 0 0,.int .i64 0,.slice none 0 0,.slice none 0 0] rfl
  refine at_world (fun w=>Below W.heap.size W w∧Cells w (W.heap.size+1) [.int .i64 0,.int .i64 0,.int .i64 0,.slice none 0 0,.int .i64 0,.slice none 0 0,.slice none 0 0]) ⟨HB.out.grown hg (by have:=HB.out.size;omega) (fun j hj=>by injection hj with hj;omega),k3⟩ fun w2 ⟨hb2,k4⟩=> ?_
  have g0:=k4.c 0 _ rfl
  have g1:=k4.c 1 _ rfl
  have g2:=k4.c 2 _ rfl
  have g3:=k4.c 3 _ rfl
  have g4:=k4.c 4 _ rfl
  have g5:=k4.c 5 _ rfl
  have g6:=k4.c 6 _ rfl
  refine bodyPost_ret (v:=.tuple #[.agg #[.int .i64 0,.int .i64 0,.int .i64 0,.slice none 0 0,.int .i64 0,.slice none 0 0,.slice none 0 0],.int .i64 e]) (by simp[results,Tryz.results10,go_sem,g0,g1,g2,g3,g4,g5,g6]) rfl ⟨⟨none,0,none,0,none,0⟩,by rw[hN.out];rfl,hb2,(by rw[hN.out];exact⟨Sl.none _ _,Sl.none _ _,Sl.none _ _,by simp[zeroMd,Bd],by simp[zeroMd,Bd],by simp[zeroMd,Bd],by simp[zeroMd,Bd]⟩)⟩
 subst he
 obtain⟨hn0,hn1,hm⟩:=hok.out rfl
 obtain⟨k,rfl⟩:=Int.eq_ofNat_of_zero_le hn0
 have hN:=Lib.hid (show newM x=(⟨x,0,List.replicate k zeroSx,List.replicate x.secs.length []⟩,0) by rw[hT.out,if_neg (by simp),Int.toNat_natCast])
 have hmk1:=mk_seats k (by omega)
 have R1:=Lib.hid (rn_at1 (k:=k) HB.out K1.out K2.out (by omega))
 have R2:=Lib.hid (rn_at2 (k:=k) HB.out K1.out K2.out (by omega))
 clear hT hok
 go_upto_region 4 with fail
 go_cut [6] from 17 to 20 (fun v w=> ∃b g,v=.pointer (some ⟨b,0,none⟩)∧Hid (RnAt W w x V vc k b g (.slice none 0 0) 0))
 case first=>as_aux_lemma=>
  go_region
  ·go_wp2_with fail
   go_meet
   exact⟨_,_,rfl,R1⟩
  ·go_wp2_with fail
   go_meet
   exact⟨_,_,rfl,R2⟩
 case rest=>
 obtain⟨b,g,rfl,HR⟩:=hcut
 clear d0 d1 d2 d3 d4 d5 d6 f0 f1 f2 f3 f4 f5 f6 c0 c1 c2 c3 y1 y2 K1 K2 HB R1 R2 hmk1
 go_wp2_with fail
 go_loopw [7] (fun iv wr=> ∃(n:Nat) (u:Value),iv=.int .i64 (n:Int)∧n≤x.secs.length∧Hid (RnAt W wr x V vc k b g u n)) (fun iv _=>x.secs.length-(intOf iv).toNat)
 case atStart=>exact⟨0,_,rfl,Nat.zero_le _,HR⟩
 case round=>
  obtain⟨n,u,rfl,hn,HN⟩:=hrel
  rename World=>wr
  clear HR
  have c3:=HN.out.kv.cell 3 (.slice V x.secs.length vc) rfl
  have y1:=HN.out.kv.lt
  have zb:=HN.out.kb.lt
  by_cases hlt:n<x.secs.length
  case neg=>as_aux_lemma=>
   obtain rfl:n=x.secs.length:=by omega
   have t0:decide ((x.secs.length:Int)<(x.secs.length:Int))=false:=by simp
   obtain⟨A,c,rfl,hc1,hc2,hA⟩:=HN.out.qs.form
   rw[List.length_replicate] at*
   obtain⟨F,hF⟩:∃F:MFrm,F=⟨V,vc,some ⟨g,0,none⟩,k,A,c⟩:=⟨_,rfl⟩
   have HO:=Lib.hid HN.out.os
   have HQ:=Lib.hid hA
   obtain⟨ms,hms⟩:∃ms:List Value,ms=[.int .i64 x.shards,.int .i64 x.ttl,.int .i64 x.session,.slice V x.secs.length vc,.int .i64 0,.slice (some ⟨g,0,none⟩) k k,.slice A x.secs.length c]:=⟨_,rfl⟩
   have HS:=Lib.hid (show BoxN wr b 31 ms.toArray by rw[hms];exact HN.out.kb)
   have HMS:=Lib.hid hms
   have S1:=Lib.hid (show(Tryz.prog.info? 31).map (·.size)=some ms.length by rw[hms];kernel_rfl)
   have S1A:=Lib.hid (show(Tryz.prog.info? 31).map (·.size)=some ms.toArray.size by rw[hms];kernel_rfl)
   have L1:=Lib.hid (show ms.toArray.size=7 by rw[hms];rfl)
   have O1:=Lib.hid (show ms.toArray.all (·.oneCell')=true by rw[hms];simp[Value.oneCell'])
   have KR:=Lib.hid HN.out.kr
   have BW:=Lib.hid HN.out.bw
   clear hms hA hc1 hc2 HN zb
   go_wp2_with (first|refine wpList_load_mid rfl 31 (.tmp 6) rfl b 0 rfl ms _ HS.out.range2 Tryz.underlying31 rfl S1.out ?_|refine wpList_store_row rfl 31 (.tmp 2) (.tmp 33) rfl (W.heap.size+1) ms.toArray rfl rfl 31 _ KR.out S1A.out L1.out.symm O1.out ?_)
   have hrow:=grownBy_setRow KR.out ms.toArray
   have htag:=Tag.of_box KR.out
   have hbw:=BW.out.size
   refine at_world (fun Y=>Below W.heap.size W Y∧BoxN Y (W.heap.size+1) 31 ms.toArray∧IsMd Y F (newM x).1) ⟨BW.out.grown hrow.1 BW.out.size (fun j hj=>by injection hj with hj;omega),hrow.2, ?_⟩ fun Y hY=> ?_
   ·have q1:=(HO.out.kept_box hrow.1 KR.out (by decide) sxR_flat).sl
    have q2:=nil_lists (HQ.out.kept_box hrow.1 KR.out (by decide) vaR_flat).sl
    rw[hN.out,hF]
    exact⟨hx.out.up (BW.out.grown hrow.1 BW.out.size (fun j hj=>by injection hj with hj;omega)),by simpa using q1,by simpa using q2,hbd.out.1,hbd.out.2.1,hbd.out.2.2,by simp[Bd]⟩
   clear hrow htag
   have k3:=hY.2.1
   rw[HMS.out] at k3
   have gg:=k3.x7
   clear k3
   exact bodyPost_ret (v:=.tuple #[.agg #[.int .i64 x.shards,.int .i64 x.ttl,.int .i64 x.session,.slice V x.secs.length vc,.int .i64 0,.slice (some ⟨g,0,none⟩) k k,.slice A x.secs.length c],.int .i64 0]) (by simp[results,Tryz.results10,go_sem,gg]) rfl (show NewPost W x _ _ from⟨F,by rw[hN.out,hF];simp[mdV,List.length_replicate],hY.1,hY.2.2⟩)
  have t0:decide ((n:Int)<(x.secs.length:Int))=true:=decide_eq_true (by omega)
  have hn8:n≤8:=by omega
  obtain⟨A,c,rfl,hc1,hc2,hA⟩:=HN.out.qs.form
  rw[List.length_replicate] at*
  obtain⟨vs,hvs⟩:∃vs:List Value,vs=List.replicate n (.slice none 0 0):=⟨_,rfl⟩
  have hvl:vs.length=n:=by rw[hvs];simp
  have HQ:=Lib.hid (show Own vaR 85 W.heap.size wr (.slice A n c) vs by rw[hvs];exact hA)
  have HVS:=Lib.hid hvs
  have hsz:=HN.out.bw.size
  clear hA hc1 hc2 hvs
  have d6:=HN.out.kb.cell 6 (.slice A n c) rfl
  go_wp2_with (at_builtin;refine wpList_append_sl _ rfl (.tmp 29) (.tmp 30) 29 rfl vaR W.heap.size 85 _ 24 Tryz.underlying29 infoVa rfl (by decide) _ vs rfl (HQ.out.up (ba _ _)) _ [.slice none 0 0] rfl (va_one _ _ _ rfl rfl) (by simp;omega) (by decide) (by simp[World.size_alloc];omega) (fun w' _ cs y h=>vaR_flat _ _ _ _ h) ?_;intro u2 w6 hown2 hg2 hat2;obtain⟨A2,c2,rfl,_,_,ho2⟩:=hown2.form;rw[List.length_append,hvl] at ho2;have hmo:=HN.out.more hg2 (HVS.out▸ho2);have e6:=hmo.2.1;have f6:=hmo.2.2.1;have z6:=hmo.2.2.2)
  exact⟨⟨n+1,_,by go_num,by omega,Lib.hid hmo.1⟩,by simp[intOf];omega⟩
def EvAt (s:Md) (ops:List MOp) (k:Nat) (ev:Int):Prop:=(ev≠0→playM s ops=(s,[],ev))∧(ev=0→checkM s=0∧ops.length≤400∧∀j (hj:j<ops.length),j<k→plCheckM ops[j]=0)
theorem evAt_bad {s:Md} {ops:List MOp} (h:checkM s≠0):EvAt s ops 0 (checkM s):=⟨fun _=>by unfold playM;rw[if_pos h],fun e=>absurd e h⟩
theorem evAt_long {s:Md} {ops:List MOp} (h:checkM s=0) (h2:400<ops.length):EvAt s ops 0 3:=⟨fun _=>by unfold playM;rw[if_neg (by simpa using h),if_pos h2],fun e=>by cases e⟩
theorem evAt_ok {s:Md} {ops:List MOp} (h:checkM s=0) (h2:¬400<ops.length):EvAt s ops 0 0:=⟨fun e=>absurd rfl e,fun _=>⟨h,by omega,fun j hj h=>by omega⟩⟩
theorem evAt_step {s:Md} {ops:List MOp} {k:Nat} (h:EvAt s ops k 0) (hk:k<ops.length):EvAt s ops (k+1) (plCheckM ops[k]):=by
 obtain⟨h1,h2,h3⟩:=h.2 rfl
 refine⟨fun e=> ?_,fun e=>⟨h1,h2,fun j hj hjk=> ?_⟩⟩
 ·have hany:(ops.any fun op=>plCheckM op !=0)=true:=List.any_eq_true.2 ⟨_,List.getElem_mem hk,by simpa using e⟩
  have h4:plCheckM ops[k]=2:=(plCheckM_val ops[k]).resolve_left e
  unfold playM
  rw[if_neg (by simpa using h1),if_neg (by omega),if_pos hany,h4]
 ·by_cases e2:j=k
  ·subst e2;exact e
  ·exact h3 j hj (by omega)
theorem evAt_end {s:Md} {ops:List MOp} (h:EvAt s ops ops.length 0):playM s ops=((runTo s ops).1,(runTo s ops).2,0)∧checkM s=0∧ops.length≤400:=by
 obtain⟨h1,h2,h3⟩:=h.2 rfl
 have hany:(ops.any fun op=>plCheckM op !=0)=false:=List.any_eq_false.2 fun x hx=>by
  obtain⟨j,hj,rfl⟩:=List.getElem_of_mem hx
  simpa using h3 j hj hj
 refine⟨?_,h1,h2⟩
 unfold playM
 rw[if_neg (by simpa using h1),if_neg (by omega),hany]
 simp
structure Rg (lo:Nat) (wq:World) (k:Option (MFrm×Md)) (o8 o9:Option (Nat×Array Value)) (X:World):Prop where
 b:Below wq.heap.size wq X
 k:∀F s,k=some (F,s)→MdKeep lo X F s
 x:∀b c,o8=some (b,c)→BoxN X b 31 c∧wq.heap.size≤b
 y:∀b c,o9=some (b,c)→BoxN X b 49 c∧wq.heap.size≤b
section
variable {lo b:Nat} {wq X Y:World} {k:Option (MFrm×Md)} {o8 o9:Option (Nat×Array Value)} {c:Array Value}
theorem Rg.up (h:Rg lo wq k o8 o9 X) (hb:Below X.heap.size X Y):Rg lo wq k o8 o9 Y:=
 ⟨h.b.trans (hb.mono h.b.size),fun F s e=>(h.k F s e).up (Loose.of hb),fun b c e=>⟨(h.x b c e).1.later hb,(h.x b c e).2⟩,fun b c e=>⟨(h.y b c e).1.later hb,(h.y b c e).2⟩⟩
theorem Rg.call (h:Rg lo wq k o8 o9 X) (hb:Below X.heap.size X Y) {F:MFrm} {s:Md} (hk:MdKeep lo Y F s):Rg lo wq (some (F,s)) o8 o9 Y:=
 ⟨(h.up hb).b,fun _ _ e=>by cases e;exact hk,(h.up hb).x,(h.up hb).y⟩
theorem Rg.alloc8 (h:Rg lo wq k o8 o9 X) (e:X.heap.size=b) (c:Array Value):Rg lo wq k (some (b,c)) o9 (X.alloc (.cells c 31)):=
 ⟨(h.up (ba X _)).b,(h.up (ba X _)).k,fun _ _ e'=>by cases e';exact⟨e▸BoxN.new X 31 c,by have:=h.b.size;omega⟩,(h.up (ba X _)).y⟩
theorem Rg.alloc9 (h:Rg lo wq k o8 o9 X) (e:X.heap.size=b) (c:Array Value):Rg lo wq k o8 (some (b,c)) (X.alloc (.cells c 49)):=
 ⟨(h.up (ba X _)).b,(h.up (ba X _)).k,(h.up (ba X _)).x,fun _ _ e'=>by cases e';exact⟨e▸BoxN.new X 49 c,by have:=h.b.size;omega⟩⟩
theorem Rg.row8 (h:Rg lo wq k (some (b,c)) o9 X) (hl:lo≤wq.heap.size) (c':Array Value):Rg lo wq k (some (b,c')) o9 (X.setRow b c'):=by
 obtain⟨h1,h2⟩:=h.x _ _ rfl
 obtain⟨g1,g2⟩:=grownBy_setRow h1 c'
 exact⟨h.b.grown g1 h.b.size (fun k hk=>by injection hk with hk;omega),fun F s e=>(h.k F s e).up (Loose.grown g1 (Tag.of_box h1) (by omega) (by decide) (by decide) (by decide)),fun _ _ e=>by cases e;exact⟨g2,h2⟩,
  fun b' c' e=>⟨(h.y b' c' e).1.kept g1 (fun e'=>(Tag.of_box (h.y b' c' e).1).ne (Tag.of_box h1) (by decide) (by injection e')),(h.y b' c' e).2⟩⟩
theorem Rg.row9 (h:Rg lo wq k o8 (some (b,c)) X) (hl:lo≤wq.heap.size) (c':Array Value):Rg lo wq k o8 (some (b,c')) (X.setRow b c'):=by
 obtain⟨h1,h2⟩:=h.y _ _ rfl
 obtain⟨g1,g2⟩:=grownBy_setRow h1 c'
 exact⟨h.b.grown g1 h.b.size (fun k hk=>by injection hk with hk;omega),fun F s e=>(h.k F s e).up (Loose.grown g1 (Tag.of_box h1) (by omega) (by decide) (by decide) (by decide)),
  fun b' c' e=>⟨(h.x b' c' e).1.kept g1 (fun e'=>(Tag.of_box (h.x b' c' e).1).ne (Tag.of_box h1) (by decide) (by injection e')),(h.x b' c' e).2⟩,fun _ _ e=>by cases e;exact⟨g2,h2⟩⟩
end
set_option maxRecDepth 20000 in
set_option maxHeartbeats 16000000 in
theorem rPlay_any (lo:Nat) (F:MFrm) (s:Md) (A:Option Addr) (c:Nat) (ops:List MOp) (w:World) (hk:MdKeep lo w F s) (hlo:lo≤w.heap.size) (hn:s.qs.length≤1000∧∀l,l∈s.qs→l.length≤1000) (ho:Sl opR w (.slice A ops.length c) ops):
 Calls Tryz.prog 13 #[mdV F s,.slice A ops.length c] w (PlayPost lo w s ops):=by
 have C1:=Lib.hid (fun W (hb:Below w.heap.size w W)=>rcheck23_any F s W (hk.isMd.up hb) hn)
 have HOK:=Lib.hid (fun h=>(checkM_ok (s:=s)).1 h)
 have HK:=Lib.hid hk
 obtain⟨_,_,he,hc1,hc2,_⟩:=id ho
 have HL:=Lib.hid ho
 have hlen:ops.length≤9223372036854775807:=by injection he;omega
 have V1:=Lib.hid (fun h=>evAt_bad (s:=s) (ops:=ops) h)
 have V2:=Lib.hid (fun h h2=>evAt_long (s:=s) (ops:=ops) h h2)
 have V3:=Lib.hid (fun h h2=>evAt_ok (s:=s) (ops:=ops) h h2)
 clear hk hn ho he hc1 hc2
 generalize hE:checkM s=E at C1 V1
 have HE:=Lib.hid hE
 clear hE
 obtain⟨ms,hms⟩:∃ms:List Value,ms=mdCells F s:=⟨_,rfl⟩
 rw[show mdV F s=.agg ms.toArray by rw[hms];rfl] at C1⊢
 have HMS:=Lib.hid hms
 have S1:=md_s hms
 have S1A:=md_S hms
 have L1:=md_l hms
 have O1:=md_o hms
 clear hms
 go_enter Tryz.func13,Tryz.ntmps13
 go_upto_region 1 with fail
 obtain⟨q,hq⟩:∃q,w.heap.size=q:=⟨_,rfl⟩
 rw[hq]
 refine at_world (fun X=>Below w.heap.size w X∧BoxN X q 31 ms.toArray∧BoxN X (q+1) 31 #[.int .i64 0,.int .i64 0,.int .i64 0,.slice none 0 0,.int .i64 0,.slice none 0 0,.slice none 0 0]) (two_boxes hq _ _ _ _) fun w0 hw0=> ?_
 have B0:=Lib.hid hw0.1
 have K1:=Lib.hid hw0.2.1
 have K4:=Lib.hid hw0.2.2
 have hwq:w.heap.size=q:=hq
 clear hw0 hq
 go_wp2_with (refine wpList_load_mid rfl 31 (.tmp 2) rfl q 0 rfl ms _ K1.out.range2 Tryz.underlying31 rfl S1.out ?_)
 refine(C1.out _ B0.out).mono ?_
 rintro e w1 ⟨rfl,hb⟩
 have B1:=Lib.hid (B0.out.trans (hb.mono B0.out.size))
 have P1:=Lib.hid (K1.out.later hb)
 have P4:=Lib.hid (K4.out.later hb)
 clear hb B0 K1 K4 C1
 go_upto_region 2 with fail
 go_cut [22] from 16 to 22 (fun v W=> ∃tb:Bool,v=.bool tb∧Hid (tb=true↔E=0∧400<ops.length)∧W=w1)
 case first=>as_aux_lemma=>
  by_cases t0:E=0
  case neg=>
   have e1:(E==0)=false:=by simpa using t0
   have HT:=Lib.hid t0
   clear t0
   go_wp2_with fail
   go_meet
   exact⟨_,rfl,Lib.hid ⟨fun h=>(by cases h),fun h=>absurd h.1 HT.out⟩,rfl⟩
  have e1:(E==0)=true:=by simpa using t0
  have HT:=Lib.hid t0
  clear t0
  by_cases t1:400<ops.length
  ·have e2:decide ((400:Int)<(ops.length:Int))=true:=by simp;omega
   have HT2:=Lib.hid t1
   clear t1
   go_wp2_with fail
   go_meet
   exact⟨_,rfl,Lib.hid ⟨fun _=>⟨HT.out,HT2.out⟩,fun _=>rfl⟩,rfl⟩
  ·have e2:decide ((400:Int)<(ops.length:Int))=false:=by simp;omega
   have HT2:=Lib.hid t1
   clear t1
   go_wp2_with fail
   go_meet
   exact⟨_,rfl,Lib.hid ⟨fun h=>(by cases h),fun h=>absurd h.2 HT2.out⟩,rfl⟩
 case rest=>
 obtain⟨tb,rfl,HTB,rfl⟩:=hcut
 rename World=>w1
 go_upto_if 22 with fail
 go_cut [7] from 16 to 22 (fun v W=> ∃ev:Int,v=.int .i64 ev∧Hid (EvAt s ops 0 ev)∧W=w1)
 case first=>as_aux_lemma=>
  cases tb
  case true=>
   have hv:=Lib.hid (V2.out (HE.out.trans (HTB.out.1 rfl).1) (HTB.out.1 rfl).2)
   go_wp2_with fail
   go_meet
   exact⟨3,rfl,hv,rfl⟩
  case false=>
   have hv:=Lib.hid (show EvAt s ops 0 E by
    by_cases h:E=0
    ·subst h
     exact V3.out HE.out (fun h2=>by have:=HTB.out.2 ⟨rfl,h2⟩;cases this)
    ·exact V1.out h)
   go_wp2_with fail
   go_meet
   exact⟨E,rfl,hv,rfl⟩
 case rest=>
 obtain⟨ev,rfl,HV0,rfl⟩:=hcut
 rename World=>w1
 clear HTB V1 V2 V3 HE
 go_wp2_with fail
 go_loopw [7,8] (fun ve iv wr=> ∃(k:Nat) (e:Int),ve=.int .i64 e∧iv=.int .i64 (k:Int)∧k≤ops.length∧Hid (EvAt s ops k e)∧Hid (Below w.heap.size w wr)∧Hid (BoxN wr q 31 ms.toArray)∧Hid (BoxN wr (q+1) 31 #[.int .i64 0,.int .i64 0,.int .i64 0,.slice none 0 0,.int .i64 0,.slice none 0 0,.slice none 0 0])) (fun _ iv _=>ops.length-(intOf iv).toNat)
 case atStart=>exact⟨0,ev,rfl,rfl,Nat.zero_le _,HV0,B1,P1,P4⟩
 case round=>
  obtain⟨k,e,rfl,rfl,hk,HEV,HB,HS1,HS4⟩:=hrel
  rename World=>wr
  clear HV0 B1 P1 P4
  have hk0:(0:Int)≤(k:Int):=by omega
  by_cases t0:e=0
  case neg=>
   have e1:(e==0)=false:=by simpa using t0
   have e2:(e !=0)=true:=by simpa using t0
   have hM1:=Lib.hid (HEV.out.1 t0)
   clear HEV t0
   by_cases hlt:k<ops.length
   ·have e3:decide ((k:Int)<(ops.length:Int))=true:=decide_eq_true (by omega)
    have e4:decide (k<ops.length)=true:=decide_eq_true hlt
    have hk1:(k:Int)<(ops.length:Int):=by omega
    go_wp2_with (first|refine wpList_load_mid rfl 31 (.tmp 2) rfl q 0 rfl ms _ HS1.out.range2 Tryz.underlying31 rfl S1.out ?_|refine wpList_store_row rfl 31 (.tmp 4) (.tmp 40) rfl (q+1) ms.toArray rfl rfl 31 _ HS4.out S1A.out L1.out.symm O1.out ?_)
    have hrow:=grownBy_setRow HS4.out ms.toArray
    refine at_world (fun Y=>Below w.heap.size w Y∧BoxN Y (q+1) 31 ms.toArray) ⟨HB.out.grown hrow.1 HB.out.size (fun k hk=>by injection hk with hk;omega),hrow.2⟩ fun Y hY=> ?_
    clear hrow
    have k3:=hY.2
    rw[HMS.out] at k3
    have gg:=k3.x7
    clear k3
    exact bodyPost_ret (v:=.tuple #[mdV F s,.slice none 0 0,.int .i64 e]) (by simp[results,Tryz.results13,go_sem,mdV,gg]) rfl (show PlayPost lo w s ops _ _ from⟨F,.slice none 0 0,by rw[hM1.out],by rw[hM1.out];exact Own.nil _ _ _ _,hY.1,by rw[hM1.out];exact HK.out.up (Loose.of hY.1)⟩)
   ·have e3:decide ((k:Int)<(ops.length:Int))=false:=decide_eq_false (by omega)
    have e4:decide (k<ops.length)=false:=decide_eq_false hlt
    have hk1:¬(k:Int)<(ops.length:Int):=by omega
    go_wp2_with (first|refine wpList_load_mid rfl 31 (.tmp 2) rfl q 0 rfl ms _ HS1.out.range2 Tryz.underlying31 rfl S1.out ?_|refine wpList_store_row rfl 31 (.tmp 4) (.tmp 40) rfl (q+1) ms.toArray rfl rfl 31 _ HS4.out S1A.out L1.out.symm O1.out ?_)
    have hrow:=grownBy_setRow HS4.out ms.toArray
    refine at_world (fun Y=>Below w.heap.size w Y∧BoxN Y (q+1) 31 ms.toArray) ⟨HB.out.grown hrow.1 HB.out.size (fun k hk=>by injection hk with hk;omega),hrow.2⟩ fun Y hY=> ?_
    clear hrow
    have k3:=hY.2
    rw[HMS.out] at k3
    have gg:=k3.x7
    clear k3
    exact bodyPost_ret (v:=.tuple #[mdV F s,.slice none 0 0,.int .i64 e]) (by simp[results,Tryz.results13,go_sem,mdV,gg]) rfl (show PlayPost lo w s ops _ _ from⟨F,.slice none 0 0,by rw[hM1.out],by rw[hM1.out];exact Own.nil _ _ _ _,hY.1,by rw[hM1.out];exact HK.out.up (Loose.of hY.1)⟩)
  subst t0
  have e1:((0:Int)==0)=true:=rfl
  have e2:((0:Int) !=0)=false:=rfl
  by_cases hlt:k<ops.length
  case pos=>as_aux_lemma=>
   have e3:decide ((k:Int)<(ops.length:Int))=true:=decide_eq_true (by omega)
   have hk1:(k:Int)<(ops.length:Int):=by omega
   obtain⟨bl,off,os,rfl,hbl,⟨hos,hoo⟩,hat⟩:=(HL.out.up HB.out).at_ hlt
   have HAT:=Lib.hid (show wr.rangeAt bl (off+k*12) os from hat)
   have S2:=Lib.hid (show(Tryz.prog.info? 46).map (·.size)=some os.length by rw[hos];kernel_rfl)
   have CP:=Lib.hid (fun X=>rPlCheck_any ops[k] X)
   rw[←hos] at CP
   have HNX:=Lib.hid (evAt_step HEV.out hlt)
   generalize plCheckM ops[k]=n at CP HNX
   clear hat hos hoo HEV
   go_wp2_with (refine wpList_load_mid rfl 46 (.tmp 35) rfl bl (off+k*12) rfl os _ HAT.out Tryz.underlying46 rfl S2.out ?_)
   refine(CP.out _).mono ?_
   rintro e w2 ⟨rfl,hb⟩
   go_wp2_with fail
   exact⟨⟨k+1,n,rfl,by go_num,by omega,HNX,Lib.hid (HB.out.trans (hb.mono HB.out.size)),Lib.hid (HS1.out.later hb),Lib.hid (HS4.out.later hb)⟩,by simp[intOf];omega⟩
  obtain rfl:k=ops.length:=by omega
  have e3:decide ((ops.length:Int)<(ops.length:Int))=false:=by simp
  have hM1:=Lib.hid (evAt_end HEV.out).1
  have OK:=Lib.hid (HOK.out (evAt_end HEV.out).2.1)
  have HN4:=Lib.hid (evAt_end HEV.out).2.2
  clear HEV HOK hk hk0 hlt
  go_wp2_with fail
  clear e1 e2 e3
  go_loopw [9,10] (fun v i wq=> ∃(k:Nat) (Fk:MFrm),k≤ops.length∧i=.int .i64 (k:Int)∧Hid (Own rpR 49 w.heap.size wq v (runTo s (ops.take k)).2)∧Hid (Below w.heap.size w wq)∧Hid (BoxN wq q 31 (mdCells Fk (runTo s (ops.take k)).1).toArray)∧Hid (BoxN wq (q+1) 31 #[.int .i64 0,.int .i64 0,.int .i64 0,.slice none 0 0,.int .i64 0,.slice none 0 0,.slice none 0 0])∧Hid (MdKeep lo wq Fk (runTo s (ops.take k)).1)) (fun _ i _=>ops.length-(intOf i).toNat)
  case atStart=>exact⟨0,F,by omega,rfl,Lib.hid (Own.nil _ _ _ _),HB,Lib.hid (show BoxN wr q 31 (mdCells F s).toArray by rw[←HMS.out];exact HS1.out),HS4,Lib.hid (HK.out.up (Loose.of HB.out))⟩
  case round=>
   obtain⟨k,Fk,hk,rfl,HV,HBq,HS,HS4q,HKk⟩:=hrel
   rename World=>wq
   clear HB HS1 HS4 HMS S1 S1A L1 O1
   by_cases hlt:k<ops.length
   case neg=>as_aux_lemma=>
    obtain rfl:k=ops.length:=by omega
    rw[List.take_length] at HV HS HKk
    have e3:decide ((ops.length:Int)<(ops.length:Int))=false:=by simp
    generalize runTo s ops=R at hM1 HV HS HKk
    have S7:=md_s (ms:=mdCells Fk R.1) rfl
    have S7A:=md_S (ms:=mdCells Fk R.1) rfl
    have O7:=md_o (ms:=mdCells Fk R.1) rfl
    go_wp2_with (first|refine wpList_load_mid rfl 31 (.tmp 2) rfl q 0 rfl (mdCells Fk R.1) _ HS.out.range2 Tryz.underlying31 rfl S7.out ?_|refine wpList_store_row rfl 31 (.tmp 4) (.tmp 63) rfl (q+1) (mdCells Fk R.1).toArray rfl rfl 31 _ HS4q.out S7A.out rfl O7.out ?_)
    have hrow:=grownBy_setRow HS4q.out (mdCells Fk R.1).toArray
    refine at_world (fun Y=>Below w.heap.size w Y∧BoxN Y (q+1) 31 (mdCells Fk R.1).toArray∧Own rpR 49 w.heap.size Y u9 R.2∧MdKeep lo Y Fk R.1) ⟨HBq.out.grown hrow.1 HBq.out.size (fun k hk=>by injection hk with hk;omega),hrow.2,HV.out.kept_box hrow.1 HS4q.out (by decide) rpR_flat,HKk.out.up (Loose.grown hrow.1 (Tag.of_box HS4q.out) (by omega) (by decide) (by decide) (by decide))⟩ fun Y hY=> ?_
    clear hrow
    have k3:=hY.2.1
    have gg:=k3.x7
    clear k3
    exact bodyPost_ret (v:=.tuple #[mdV Fk R.1,u9,.int .i64 0]) (by simp[results,Tryz.results13,go_sem,mdV,mdCells,gg]) rfl (show PlayPost lo w s ops _ _ from⟨Fk,u9,by rw[hM1.out],by rw[hM1.out];exact hY.2.2.1,hY.1,by rw[hM1.out];exact hY.2.2.2⟩)
   have e3:decide ((k:Int)<(ops.length:Int))=true:=decide_eq_true (by omega)
   have hk0:(0:Int)≤(k:Int):=by omega
   have hk1:(k:Int)<(ops.length:Int):=by omega
   have hloq:lo≤wq.heap.size:=Nat.le_trans hlo HBq.out.size
   have hln:(runTo s (ops.take k)).2.length≤400:=by have:=HN4.out;rw[runTo_len];simp;omega
   obtain⟨bl,off,os,rfl,hbl,⟨hos,hoo⟩,hat⟩:=(HL.out.up HBq.out).at_ hlt
   have HAT:=Lib.hid (show wq.rangeAt bl (off+k*12) os from hat)
   have HOO:=Lib.hid hoo
   have OKk:=Lib.hid (show MdOk (runTo s (ops.take k)).1 from runTo_ok OK.out _)
   have HSN:=Lib.hid (show runTo s (ops.take (k+1))=_ from(by rw[List.take_succ_eq_append_getElem hlt,runTo_snoc]:runTo s (ops.take (k+1))=((doM (runTo s (ops.take k)).1 ops[k]).1,(runTo s (ops.take k)).2++[(doM (runTo s (ops.take k)).1 ops[k]).2.1])))
   have CD:=Lib.hid (fun W (hb:Below wq.heap.size wq W)=>rDo_any lo Fk (runTo s (ops.take k)).1 ops[k] W (HKk.out.up (Loose.of hb)) (md_small OKk.out) HOO.out)
   unfold MDoPost at CD
   rw[mdoM_ok OKk.out,←hos] at CD
   have S2:=Lib.hid (show(Tryz.prog.info? 46).map (·.size)=some os.length by rw[hos];kernel_rfl)
   generalize runTo s (ops.take k)=R at*
   obtain⟨sk,rk⟩:=R
   simp only at CD HSN HV HS HKk OKk hln
   generalize doM sk ops[k]=N at CD HSN
   obtain⟨s',r,f⟩:=N
   simp only at CD HSN
   have MVk:=Lib.hid (show mdV Fk sk=.agg (mdCells Fk sk).toArray from rfl)
   have S7:=md_s (ms:=mdCells Fk sk) rfl
   rw[MVk.out] at CD
   obtain⟨ms,hms⟩:∃ms:List Value,ms=mdCells Fk sk:=⟨_,rfl⟩
   have LM:=md_l hms
   rw[←hms] at CD S7 HS
   have HMS:=Lib.hid hms
   clear hms hos HOO hat hoo OKk
   go_upto_region 14 with fail
   go_cut [11,12,13] from 42 to 62 (fun v8 v9 v10 W=> ∃b8 b9 F',v8=.pointer (some ⟨b8,0,none⟩)∧v9=.pointer (some ⟨b9,0,none⟩)∧v10=.int .i64 f∧Below wq.heap.size wq W∧MdKeep lo W F' s'∧BoxN W b8 31 (mdCells F' s').toArray∧wq.heap.size≤b8∧BoxN W b9 49 (rpCells r).toArray∧wq.heap.size≤b9)
   case first=>as_aux_lemma=>
    have hloq:lo≤wq.heap.size:=by have:=HBq.out.size;omega
    refine wp_region_held (S:=fun X=>Below wq.heap.size wq X) (by kernel_rfl) ?_
    have HS0:Below wq.heap.size wq wq.drew:=bdd (Below.refl _ _)
    refine wpAnyH_take (i:=0) rfl (by decide+kernel) (by decide+kernel) (by decide+kernel) (fun _ _ _ h=>h) (yieldsIf_load_mid rfl 31 (.tmp 2) rfl (q) (0) rfl (ms) _ (fun X hX=>(HS.out.later hX).range2) Tryz.underlying31 rfl (S7.out)) HS0 ?_
    refine wpAnyH_take (i:=1) (v:=.slice (some ⟨bl,off,none⟩) ops.length c) rfl (by decide+kernel) (by decide+kernel) (by decide+kernel) (fun _ _ _ h=>h) (.inl ⟨rfl,fun W hS=>by go_simp⟩) HS0 ?_
    refine wpAnyH_take (i:=2) (v:=.int .i64 (k:Int)) rfl (by decide+kernel) (by decide+kernel) (by decide+kernel) (fun _ _ _ h=>h) (.inl ⟨rfl,fun W hS=>by go_simp⟩) HS0 ?_
    refine wpAnyH_take (i:=3) (v:=.pointer (some ⟨bl,off+k*12,none⟩)) rfl (by decide+kernel) (by decide+kernel) (by decide+kernel) (fun _ _ _ h=>h) (.inl ⟨rfl,fun W hS=>by go_simp⟩) HS0 ?_
    refine wpAnyH_take (i:=4) rfl (by decide+kernel) (by decide+kernel) (by decide+kernel) (fun _ _ _ h=>h) (yieldsIf_load_mid rfl 46 (.tmp 52) rfl (bl) (off+k*12) rfl (os) _ (fun X hX=>range_later hX HAT.out) Tryz.underlying46 rfl (S2.out)) HS0 ?_
    refine at_world (Rg lo wq none none none) ⟨HS0,fun _ _ e=>(by cases e),fun _ _ e=>(by cases e),fun _ _ e=>(by cases e)⟩ fun x hx=> ?_
    have S:=Lib.hid hx
    clear HS0 hx
    iterate 3
     all_goals
      first|refine wpAnyH_all (rs:=[5,10,11]) (by decide+kernel) (by simp) fun j hj=> ?_|refine wpAnyH_all (rs:=[10,11]) (by decide+kernel) (by simp) fun j hj=> ?_|refine wpAnyH_all (rs:=[5,11]) (by decide+kernel) (by simp) fun j hj=> ?_|refine wpAnyH_all (rs:=[5,10]) (by decide+kernel) (by simp) fun j hj=> ?_|refine wpAnyH_all (rs:=[5]) (by decide+kernel) (by simp) fun j hj=> ?_|refine wpAnyH_all (rs:=[10]) (by decide+kernel) (by simp) fun j hj=> ?_|refine wpAnyH_all (rs:=[11]) (by decide+kernel) (by simp) fun j hj=> ?_
      simp only[List.mem_cons,List.not_mem_nil,or_false] at hj
      repeat' rcases hj with hj|hj
     all_goals
      try subst hj
      first
      |refine heldOp (i:=10) rfl fun K hK=> ?_
       go_wp2_with fail
       obtain⟨b8,h8⟩:∃q,x.heap.size=q:=⟨_,rfl⟩
       rw[h8]
       refine at_world (Rg lo wq _ (some (b8,#[.int .i64 0,.int .i64 0,.int .i64 0,.slice none 0 0,.int .i64 0,.slice none 0 0,.slice none 0 0])) _) (S.out.alloc8 h8 _) fun x hx=> ?_
       refine hK.out _ _ ⟨hx.b, ?_⟩
       clear h8 S hK K
       have S:=Lib.hid hx
       clear hx
      |refine heldOp (i:=11) rfl fun K hK=> ?_
       go_wp2_with fail
       obtain⟨b9,h9⟩:∃q,x.heap.size=q:=⟨_,rfl⟩
       rw[h9]
       refine at_world (Rg lo wq _ _ (some (b9,#[.int .i64 0,.int .i64 0,.int .i64 0,.int .i64 0,.int .u32 0,.int .u32 0,.int .u64 0,.int .u64 0,.int .i64 0]))) (S.out.alloc9 h9 _) fun x hx=> ?_
       refine hK.out _ _ ⟨hx.b, ?_⟩
       clear h9 S hK K
       have S:=Lib.hid hx
       clear hx
      |refine heldOp (i:=5) rfl fun K hK=> ?_
       go_wp2_with fail
       refine(CD.out _ S.out.b).mono ?_
       rintro e x ⟨F',rfl,hb,hk⟩
       have V9:=Lib.hid (show mdV F' s'=.agg (mdCells F' s').toArray from rfl)
       have V8:=Lib.hid (show RpV r=.agg (rpCells r).toArray from rfl)
       rw[V9.out,V8.out]
       go_wp2_with fail
       replace S:=Lib.hid (S.out.call hb hk)
       refine hK.out _ _ ⟨S.out.b, ?_⟩
       clear hb hk hK K V9 V8
       refine wpAnyH_take (i:=6) (v:=.tuple #[.agg (mdCells F' s').toArray,.agg (rpCells r).toArray,.int .i64 f]) rfl (by decide+kernel) (by decide+kernel) (by decide+kernel) (fun _ _ _ h=>h) (.inl ⟨rfl,fun W hS=>by go_simp⟩) S.out.b ?_
       refine wpAnyH_take (i:=7) (v:=.agg (mdCells F' s').toArray) rfl (by decide+kernel) (by decide+kernel) (by decide+kernel) (fun _ _ _ h=>h) (.inl ⟨rfl,fun W hS=>by go_simp⟩) S.out.b ?_
       refine wpAnyH_take (i:=8) (v:=.agg (rpCells r).toArray) rfl (by decide+kernel) (by decide+kernel) (by decide+kernel) (fun _ _ _ h=>h) (.inl ⟨rfl,fun W hS=>by go_simp⟩) S.out.b ?_
       refine wpAnyH_take (i:=9) (v:=.int .i64 f) rfl (by decide+kernel) (by decide+kernel) (by decide+kernel) (fun _ _ _ h=>h) (.inl ⟨rfl,fun W hS=>by go_simp⟩) S.out.b ?_
    all_goals
     refine wpAnyH_all (rs:=[12]) (by decide+kernel) (by simp) fun j hj=> ?_
     obtain rfl:j=12:=by simpa using hj
     clear hj
     refine heldOp rfl fun K hK=> ?_
     have S9A:=md_S (ms:=mdCells F' s') rfl
     have O9:=md_o (ms:=mdCells F' s') rfl
     have S8A:=rp_S (ms:=rpCells r) rfl
     have O8:=rp_o (ms:=rpCells r) rfl
     go_wp2_with (refine wpList_store_row rfl 31 (.tmp 11) (.tmp 55) rfl b8 (mdCells F' s').toArray rfl rfl 31 _ (S.out.x _ _ rfl).1 S9A.out rfl O9.out ?_)
     refine at_world (Rg lo wq _ (some (b8,(mdCells F' s').toArray)) _) (S.out.row8 hloq _) fun x hx=> ?_
     refine hK.out _ _ ⟨hx.b, ?_⟩
     clear S hK K
     have S:=Lib.hid hx
     clear hx
     refine wpAnyH_all (rs:=[13]) (by decide+kernel) (by simp) fun j hj=> ?_
     obtain rfl:j=13:=by simpa using hj
     clear hj
     refine heldOp rfl fun K hK=> ?_
     go_wp2_with (refine wpList_store_row rfl 49 (.tmp 12) (.tmp 56) rfl b9 (rpCells r).toArray rfl rfl 49 _ (S.out.y _ _ rfl).1 S8A.out rfl O8.out ?_)
     refine at_world (Rg lo wq _ _ (some (b9,(rpCells r).toArray))) (S.out.row9 hloq _) fun x hx=> ?_
     refine hK.out _ _ ⟨hx.b, ?_⟩
     clear S hK K
     have S:=Lib.hid hx
     clear hx
     refine wpAnyH_take (i:=14) (v:=.int .i64 f) rfl (by decide+kernel) (by decide+kernel) (by decide+kernel) (fun _ _ _ h=>h) (.inl ⟨rfl,fun W hS=>by go_simp⟩) S.out.b ?_
     refine wpAnyH_done (by decide+kernel) ?_ _
     go_wp2_with fail
     go_meet
     exact⟨_,_,F',rfl,rfl,rfl,S.out.b,S.out.k _ _ rfl,(S.out.x _ _ rfl).1,(S.out.x _ _ rfl).2,(S.out.y _ _ rfl).1,(S.out.y _ _ rfl).2⟩
   case rest=>
   obtain⟨b8,b9,F',rfl,rfl,rfl,hb,hkn,h8,hl8,h9,hl9⟩:=hcut
   rename World=>wc
   have B5:=Lib.hid (HBq.out.trans (hb.mono HBq.out.size))
   have Z2:=Lib.hid (HS.out.later hb)
   have Z4:=Lib.hid (HS4q.out.later hb)
   have ZV:=Lib.hid (HV.out.up hb)
   have ZK:=Lib.hid hkn
   have Z8:=Lib.hid h8
   have Z9:=Lib.hid h9
   have n8:q+1<b8:=by have:=HS4q.out.lt;omega
   have n9:q+1<b9:=by have:=HS4q.out.lt;omega
   have S7N:=md_s (ms:=mdCells F' s') rfl
   have S7A:=md_S (ms:=mdCells F' s') rfl
   have O7:=md_o (ms:=mdCells F' s') rfl
   have S9:=rp_s (ms:=rpCells r) rfl
   clear hb hkn h8 hl8 h9 hl9 HAT CD HS HS4q HV HKk HBq S2 S7
   go_upto_region 16 with(first|refine wpList_load_mid rfl 31 (.tmp 11) rfl b8 0 rfl (mdCells F' s') _ Z8.out.range2 Tryz.underlying31 rfl S7N.out ?_|refine wpList_store_row rfl 31 (.tmp 2) (.tmp 58) rfl q (mdCells F' s').toArray rfl rfl 31 _ Z2.out S7A.out LM.out O7.out ?_)
   have hrow:=grownBy_setRow Z2.out (mdCells F' s').toArray
   refine at_world (fun X=>Below w.heap.size w X∧BoxN X q 31 (mdCells F' s').toArray∧BoxN X (q+1) 31 #[.int .i64 0,.int .i64 0,.int .i64 0,.slice none 0 0,.int .i64 0,.slice none 0 0,.slice none 0 0]∧BoxN X b9 49 (rpCells r).toArray∧Own rpR 49 w.heap.size X u9 rk∧MdKeep lo X F' s') ⟨B5.out.grown hrow.1 B5.out.size (fun k hk=>by injection hk with hk;omega),hrow.2,Z4.out.kept hrow.1 (fun e=>by injection e with e;omega),Z9.out.kept hrow.1 (fun e=>by injection e with e;omega),ZV.out.kept_box hrow.1 Z2.out (by decide) rpR_flat,ZK.out.up (Loose.grown hrow.1 (Tag.of_box Z2.out) (by omega) (by decide) (by decide) (by decide))⟩ fun x4 hx=> ?_
   have V5:=Lib.hid hx.1
   have V2:=Lib.hid hx.2.1
   have V4:=Lib.hid hx.2.2.1
   have V9:=Lib.hid hx.2.2.2.1
   have VV:=Lib.hid hx.2.2.2.2.1
   have VK:=Lib.hid hx.2.2.2.2.2
   clear hrow hx B5 Z2 Z4 ZV ZK Z8 Z9 LM HMS
   have hgo:=V5.out.size
   go_wp2_with (first|refine wpList_load_mid rfl 49 (.tmp 12) rfl b9 0 rfl [.int .i64 r.err,.int .i64 r.seat,.int .i64 r.n,.int .i64 r.deadline,.int .u32 r.tk.seat,.int .u32 r.tk.owner,.int .u64 r.tk.serial,.int .u64 r.tk.epoch,.int .i64 r.place] _ V9.out.range2 Tryz.underlying49 rfl S9.out ?_|(at_builtin;refine wpList_append_sl _ rfl (.tmp 59) (.tmp 61) 36 rfl rpR w.heap.size 49 _ 64 Tryz.underlying36 infoRp rfl (by decide) _ rk rfl (VV.out.up (ba _ _)) _ [r] rfl (rp_one _ _ r rfl) (by simp;omega) (by decide) (by simp[World.size_alloc];omega) (fun w' _ cs y h=>rpR_flat _ _ _ _ h) ?_;intro v1 w7 hown1 hg1 hat1))
   have hba:=ba x4 (.cells (rpCells r).toArray 49)
   have VV':=VV.out.up hba
   refine⟨⟨k+1,F',by omega,by go_num, ?_, ?_, ?_, ?_, ?_⟩,by simp[intOf];omega⟩
   ·rw[HSN.out];exact Lib.hid hown1
   ·exact Lib.hid ((V5.out.trans (hba.mono V5.out.size)).grown hg1 (by simp[World.size_alloc];omega) (fun j hj=>(VV'.lt j hj).1))
   ·rw[HSN.out];exact Lib.hid ((V2.out.later hba).kept_own hg1 VV' (by decide))
   ·exact Lib.hid ((V4.out.later hba).kept_own hg1 VV' (by decide))
   ·rw[HSN.out];exact Lib.hid (VK.out.up ((Loose.of hba).trans (Loose.own hg1 VV' hlo (by decide) (by decide) (by decide))))
end Go.Proofs.YtlckmjiioohcmaaGreatDoor

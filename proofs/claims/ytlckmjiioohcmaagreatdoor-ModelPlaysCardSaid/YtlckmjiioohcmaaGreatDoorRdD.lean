/-
  Walks of groundlingref19.choices, alone. Conditions: as each theorem says.
-/
import Derived.Test.YtlckmjiioohcmaaGreatDoorRdC
namespace Go.Proofs.YtlckmjiioohcmaaGreatDoor
open Go.RowKit
theorem runsM_len {x:Ve} {fr:List Bool} {sec:Nat} (hc:(checkV x).2=0) (hs:sec<x.secs.length):(runsM x fr sec).length≤1040:=by
 have hse:=secE_ok ((checkV_ok hc).1.2 sec hs)
 have h:=(runsTo_ok fr x.secs[sec].rows (upTo x.secs sec).toNat hse.2.1 _ (Nat.le_refl _)).1
 have e:runsM x fr sec=(runsTo fr x.secs[sec].rows (upTo x.secs sec).toNat x.secs[sec].rows.length).1:=by simp[runsM,hs]
 have:=hse.1
 rw[e]
 omega
theorem chos_len {m:Int} (hm:1≤m):∀{rs:List Ru},(∀r∈rs,RuOk r)→(chos rs m).length≤rs.length*1000000
 |[],_=>by simp[chos]
 |r::rs,h=>by
  have ih:=chos_len hm (rs:=rs) (fun r hr=>h r (by simp[hr]))
  have hr:=(h r (by simp)).2.2
  have e:chos (r::rs) m=chosR m r++chos rs m:=by simp[chos]
  have h2:(chosR m r).length≤1000000:=by simp[chosR,cnt];omega
  rw[e,List.length_append,List.length_cons]
  omega
set_option maxHeartbeats 4000000 in
set_option maxRecDepth 20000 in
theorem rChoices_any {w:World} {V:Option Addr} {vc:Nat} {x:Ve} (hv:Sl secR w (.slice V x.secs.length vc) x.secs) {F:Option Addr} {fc:Nat} {fr:List Bool} (hF:Sl boR w (.slice F fr.length fc) fr) (hc:(checkV x).2=0) (hlen:(fr.length:Int)=sum (allRows x)) {sec:Nat} (hs:sec<x.secs.length) {m:Int} (hm:1≤m∧m≤8):
 Calls Tryz.prog 148 #[.agg #[.int .i64 x.shards,.int .i64 x.ttl,.int .i64 x.session,.slice V x.secs.length vc],.slice F fr.length fc,.int .i64 (sec:Int),.int .i64 m] w fun e w'=> ∃A c,e=.returned (.slice A ((chos (runsM x fr sec) m).map firstC).length c)∧Own intR 3 w.heap.size w' (.slice A ((chos (runsM x fr sec) m).map firstC).length c) ((chos (runsM x fr sec) m).map firstC)∧((chos (runsM x fr sec) m).map firstC).length≤1040000000∧Below w.heap.size w w':=by
 have C1:=Lib.hid (fun W (hb:Below w.heap.size w W)=>rRuns_any (hv.up hb) (hF.up hb) hc hlen hs)
 have hrl:=runsM_len (fr:=fr) hc hs
 generalize runsM x fr sec=rs at*
 generalize hMM:(chos rs m).map firstC=M
 have HM:=Lib.hid hMM
 obtain⟨hm1,hm2⟩:=hm
 clear hv hF hc hlen hs hMM
 go_enter Tryz.func148,Tryz.ntmps148
 go_upto_region 1 with fail
 obtain⟨q,hq⟩:∃q,w.heap.size=q:=⟨_,rfl⟩
 rw[hq]
 refine at_world (fun X=>Below w.heap.size w X∧BoxN X q 24 #[.int .i64 x.shards,.int .i64 x.ttl,.int .i64 x.session,.slice V x.secs.length vc]) ⟨ba _ _,hq▸BoxN.new w _ _⟩ fun w0 hw0=> ?_
 have B0:=Lib.hid hw0.1
 have K0:=Lib.hid hw0.2
 clear hw0
 have c0:=K0.out.cell 0 _ rfl
 have c1:=K0.out.cell 1 _ rfl
 have c2:=K0.out.cell 2 _ rfl
 have c3:=K0.out.cell 3 _ rfl
 have zq:=K0.out.lt
 go_wp2_with fail
 refine(C1.out _ B0.out).mono ?_
 rintro e w1 ⟨A1,ac,rfl,ho,hb⟩
 have B1:=Lib.hid (B0.out.trans (hb.mono B0.out.size))
 have HS:=Lib.hid ho.sl
 have HRO:=Lib.hid (show∀r∈rs,RuOk r from fun r hr=>ho.sl.ruOk hr)
 have hlenc:=chos_len hm1 HRO.out
 have HLC:=Lib.hid hlenc
 clear hb ho c0 c1 c2 c3 zq K0 B0 C1 hlenc
 go_wp2_with fail
 go_loopw [11,10] (fun iv v wr=> ∃i:Nat,iv=.int .i64 (i:Int)∧i≤rs.length∧Hid (Own intR 3 w1.heap.size wr v ((chos (rs.take i) m).map firstC))∧Hid (Below w1.heap.size w1 wr)) (fun iv _ _=>rs.length-(intOf iv).toNat)
 case atStart=>exact⟨0,rfl,Nat.zero_le _,Lib.hid (Own.nil _ _ _ _),Lib.hid (Below.refl _ _)⟩
 case round=>
  obtain⟨i,rfl,hi,HO,HB⟩:=hrel
  rename World=>wr
  have hi0:(0:Int)≤(i:Int):=by omega
  by_cases hlt:i<rs.length
  case neg=>
   obtain rfl:i=rs.length:=by omega
   have t0:decide ((rs.length:Int)<(rs.length:Int))=false:=by simp
   have ho:=HO.out
   rw[List.take_length,HM.out] at ho
   obtain⟨A,c,rfl,_,_,ho⟩:=ho.form
   have HO2:=Lib.hid ho
   have B2:=Lib.hid (B1.out.trans (HB.out.mono B1.out.size))
   have hle:=B1.out.size
   have hml:M.length≤1040000000:=by
    have h1:=HLC.out
    rw[←HM.out,List.length_map]
    omega
   clear ho HO HM
   go_wp2_with fail
   go_ret
   rw[←hq]
   exact⟨A,c,rfl,HO2.out.mono hle,hml,B2.out⟩
  have t0:decide ((i:Int)<(rs.length:Int))=true:=decide_eq_true (by omega)
  have hi1:(i:Int)<(rs.length:Int):=by omega
  have HZ:=Lib.hid (comeC_zero rs m i)
  have HN:=Lib.hid (fun k hk=>comeC_next (m:=m) (k:=k) hlt hk)
  have HA:=Lib.hid (comeC_all (m:=m) hlt)
  have HP:=Lib.hid (fun k hk=>comeC_pre (m:=m) (k:=k) hlt hk)
  have hok:=HRO.out _ (List.getElem_mem hlt)
  have hok1:0≤rs[i].first∧rs[i].first≤1000000:=hok.2.1
  have hok2:0≤rs[i].many∧rs[i].many≤1000000:=hok.2.2
  have HCN:=Lib.hid (show cnt m rs[i]=(rs[i].many-m+1).toNat from rfl)
  have HS2:=Lib.hid (fun W (hb:Below w1.heap.size w1 W)=>(HS.out.up hb).atRu hlt)
  have hcn1:cnt m rs[i]≤1000000:=by rw[HCN.out];omega
  have HF:=Lib.hid (fun k:Nat=>show firstC (choAt m rs[i] k)=rs[i].first+(k:Int) from rfl)
  clear hok
  generalize rs[i]=r at*
  generalize cnt m r=cn at*
  go_wp2_with fail
  go_loopw [12,10] (fun kv v wi=> ∃k:Nat,kv=.int .i64 (k:Int)∧k≤cn∧Hid (Own intR 3 w1.heap.size wi v ((comeC rs m i k).map firstC))∧Hid (Below w1.heap.size w1 wi)) (fun kv _ _=>cn-(intOf kv).toNat)
  case atStart=>exact⟨0,rfl,Nat.zero_le _,Lib.hid (by rw[HZ.out];exact HO.out),HB⟩
  case round=>
   obtain⟨k,rfl,hk,HOk,HBk⟩:=hrel
   rename World=>wi
   clear HO HB HZ
   obtain⟨b,off,hA1,hb,e0,e1,e2,_⟩:=HS2.out wi HBk.out
   subst hA1
   have hk0:(0:Int)≤(k:Int):=by omega
   have hkb:(k:Int)≤1000000:=by omega
   have nk:IntKind.i64.wrap ((k:Int)+1)=(k:Int)+1:=IntWalk.i64_in _ (by omega)
   have nk2:IntKind.i64.wrap ((k:Int)+m)=(k:Int)+m:=IntWalk.i64_in _ (by omega)
   have hcn:=HCN.out
   by_cases hkc:k<cn
   case neg=>
    obtain rfl:k=cn:=by omega
    have t1:decide ((k:Int)+m≤r.many)=false:=decide_eq_false (by omega)
    have ho:=HOk.out
    rw[HA.out] at ho
    have HO2:=Lib.hid ho
    have ni:IntKind.i64.wrap ((i:Int)+1)=(i:Int)+1:=IntWalk.i64_in _ (by omega)
    clear ho HOk hcn
    go_wp2_with fail
    exact⟨⟨i+1,by go_num,by omega,HO2,HBk⟩,by simp[intOf];omega⟩
   have t1:decide ((k:Int)+m≤r.many)=true:=decide_eq_true (by omega)
   have hlk:((comeC rs m i k).map firstC).length≤1040000000:=by
    obtain⟨rr,hrr⟩:=HP.out k hk
    have h1:=congrArg List.length hrr
    rw[List.length_append] at h1
    have h2:=HLC.out
    rw[List.length_map]
    omega
   have HNX:=Lib.hid (show(comeC rs m i (k+1)).map firstC=(comeC rs m i k).map firstC++[r.first+(k:Int)] by rw[HN.out k hkc,List.map_append,←HF.out k];rfl)
   have nf:IntKind.i64.wrap (r.first+(k:Int))=r.first+(k:Int):=IntWalk.i64_in _ (by omega)
   have hbd:Bd (r.first+(k:Int)):=by unfold Bd;omega
   clear hcn HN HA HP HF HLC
   generalize(comeC rs m i k).map firstC=ac at*
   have HBD:=Lib.hid hbd
   have hsz:=HBk.out.size
   clear hbd
   go_wp2_with (at_builtin;refine wpList_append_sl _ rfl (.tmp 34) (.tmp 42) 65 rfl intR w1.heap.size 3 _ 8 Tryz.underlying65 infoIm rfl (by decide) _ ac rfl (HOk.out.up (ba _ _)) _ [r.first+(k:Int)] rfl (sl_one _ _ _ _ rfl HBD.out) (by simp;omega) (by decide) (by simp[World.size_alloc];omega) (fun w' _ cs y h=>intR_flat _ _ _ _ h) ?_;intro v1 w7 hown1 hg1 hat1)
   have HB7:=(bal (o:=.cells #[.int .i64 (r.first+(k:Int))] 3) HBk.out).grown hg1 (by simp[World.size_alloc];omega) (fun z hz=>(HOk.out.lt z hz).1)
   exact⟨⟨k+1,by go_num,by omega,Lib.hid (by rw[HNX.out];exact hown1),Lib.hid HB7⟩,by simp[intOf];omega⟩
set_option maxHeartbeats 4000000 in
set_option maxRecDepth 20000 in
theorem rAlone_any {w:World} {V:Option Addr} {vc:Nat} {x:Ve} (hv:Sl secR w (.slice V x.secs.length vc) x.secs) {F:Option Addr} {fc:Nat} {fr:List Bool} (hF:Sl boR w (.slice F fr.length fc) fr) (hc:(checkV x).2=0) (hlen:(fr.length:Int)=sum (allRows x)) {sec:Nat} (hs:sec<x.secs.length):
 Calls Tryz.prog 149 #[.agg #[.int .i64 x.shards,.int .i64 x.ttl,.int .i64 x.session,.slice V x.secs.length vc],.slice F fr.length fc,.int .i64 (sec:Int)] w fun e w'=>e=.returned (.int .i64 (aloneM x fr sec))∧Below w.heap.size w w':=by
 have C1:=Lib.hid (fun W (hb:Below w.heap.size w W)=>rRuns_any (hv.up hb) (hF.up hb) hc hlen hs)
 have hrl:=runsM_len (fr:=fr) hc hs
 have HM:=Lib.hid (show aloneM x fr sec=((runsM x fr sec).countP (fun r=>r.many==1):Nat) from rfl)
 generalize aloneM x fr sec=M at HM⊢
 generalize runsM x fr sec=rs at*
 clear hv hF hc hlen hs
 go_enter Tryz.func149,Tryz.ntmps149
 go_upto_region 1 with fail
 obtain⟨q,hq⟩:∃q,w.heap.size=q:=⟨_,rfl⟩
 rw[hq]
 refine at_world (fun X=>Below w.heap.size w X∧BoxN X q 24 #[.int .i64 x.shards,.int .i64 x.ttl,.int .i64 x.session,.slice V x.secs.length vc]) ⟨ba _ _,hq▸BoxN.new w _ _⟩ fun w0 hw0=> ?_
 have B0:=Lib.hid hw0.1
 have K0:=Lib.hid hw0.2
 clear hw0
 have c0:=K0.out.cell 0 _ rfl
 have c1:=K0.out.cell 1 _ rfl
 have c2:=K0.out.cell 2 _ rfl
 have c3:=K0.out.cell 3 _ rfl
 have zq:=K0.out.lt
 go_wp2_with fail
 refine(C1.out _ B0.out).mono ?_
 rintro e w1 ⟨A1,ac,rfl,ho,hb⟩
 have B1:=Lib.hid (B0.out.trans (hb.mono B0.out.size))
 have HS:=Lib.hid ho.sl
 clear hb ho c0 c1 c2 c3 zq K0 B0 C1
 go_wp2_with fail
 go_loop [9,8] (fun iv nv=> ∃i n:Nat,iv=.int .i64 (i:Int)∧i≤rs.length∧nv=.int .i64 (n:Int)∧n≤i∧Hid ((rs.take i).countP (fun r=>r.many==1)=n)) (fun iv _=>rs.length-(intOf iv).toNat)
 case atStart=>exact⟨0,0,rfl,Nat.zero_le _,rfl,Nat.le_refl _,Lib.hid (by simp)⟩
 case round=>
  obtain⟨i,n,rfl,hi,rfl,hn,HC⟩:=hrel
  have hi0:(0:Int)≤(i:Int):=by omega
  have hn0:(0:Int)≤(n:Int):=by omega
  by_cases hlt:i<rs.length
  case neg=>
   obtain rfl:i=rs.length:=by omega
   have t0:decide ((rs.length:Int)<(rs.length:Int))=false:=by simp
   have t0':decide (rs.length<rs.length)=false:=by simp
   have hM2:=Lib.hid (show M=(n:Int) by rw[HM.out,←HC.out,List.take_length])
   clear HM HC
   go_wp2_with fail
   go_ret
   rw[←hq]
   exact⟨by rw[hM2.out];rfl,B1.out⟩
  have t0:decide ((i:Int)<(rs.length:Int))=true:=decide_eq_true (by omega)
  have t0':decide (i<rs.length)=true:=decide_eq_true hlt
  have hi1:(i:Int)<(rs.length:Int):=by omega
  obtain⟨b,off,hA1,hb,e0,e1,e2,_⟩:=HS.out.atRu hlt
  subst hA1
  have HC2:=Lib.hid (show(rs.take (i+1)).countP (fun r=>r.many==1)=n+if rs[i].many=1 then 1 else 0 by
   rw[List.take_succ_eq_append_getElem hlt,List.countP_append,HC.out,List.countP_singleton]
   simp)
  have ni:IntKind.i64.wrap ((i:Int)+1)=(i:Int)+1:=IntWalk.i64_in _ (by omega)
  have nn:IntKind.i64.wrap ((n:Int)+1)=(n:Int)+1:=IntWalk.i64_in _ (by omega)
  generalize rs[i]=r at*
  by_cases h1:r.many=1
  ·have t1:(r.many==1)=true:=by simpa using h1
   rw[if_pos h1] at HC2
   clear h1 HC
   go_wp2_with fail
   go_round
   case rel=>exact⟨i+1,n+1,by go_num,by omega,by go_num,by omega,HC2⟩
   case measure=>simp[intOf];omega
  ·have t1:(r.many==1)=false:=by simpa using h1
   rw[if_neg h1] at HC2
   clear h1 HC
   go_wp2_with fail
   go_round
   case rel=>exact⟨i+1,n,by go_num,by omega,rfl,by omega,HC2⟩
   case measure=>simp[intOf];omega
end Go.Proofs.YtlckmjiioohcmaaGreatDoor

/-
  Walks of groundlingref19.best, Choices, Best: the document's best choice is that of package adjacent. Conditions: as each theorem says.
-/
import Derived.Test.YtlckmjiioohcmaaGreatDoorRdD
import Derived.Test.YtlckmjiioohcmaaGreatDoorMdY
import Derived.Deep.MidRow
namespace Go.Proofs.YtlckmjiioohcmaaGreatDoor
open Go.RowKit
theorem chos_in {x:Ve} {fr:List Bool} {sec:Nat} {m:Int} (hc:(checkV x).2=0) (hl:(fr.length:Int)=sum (allRows x)) (hs:sec<x.secs.length) {c:Cho} (h:c∈chos (runsM x fr sec) m):0≤firstC c∧firstC c+m≤fr.length:=by
 obtain⟨hd1,k,hd2,hd3,_⟩:=mem_chos h
 obtain⟨hf1,hf2⟩:=rows_fit hc hs
 have hse:=secE_ok ((checkV_ok hc).1.2 sec hs)
 have hin:=runsTo_in fr x.secs[sec].rows (upTo x.secs sec).toNat hse.2.1 x.secs[sec].rows.length (Nat.le_refl _) c.run (by simpa[runsM,hs] using hd1)
 have he:=(runsTo_ok fr x.secs[sec].rows (upTo x.secs sec).toNat hse.2.1 x.secs[sec].rows.length (Nat.le_refl _)).2
 rw[List.take_length] at he
 unfold firstC
 rw[hd2]
 exact⟨by omega,by omega⟩
def bestAtM (x:Ve) (fr:List Bool) (sec:Nat) (m:Int):Int:=match bestC (chos (runsM x fr sec) m) with
 |some c=>firstC c
 |none=> -1
theorem bestF_all {x:Ve} {fr:List Bool} {sec:Nat} {m:Int} (hm:1≤m):(bestF (((chos (runsM x fr sec) m).map firstC).map fun s=>(s,aloneM x (takeS fr s.toNat m.toNat) sec))).1=bestAtM x fr sec m:=by
 rw[List.map_map,show((fun s=>(s,aloneM x (takeS fr s.toNat m.toNat) sec))∘firstC)=(fun c=>(firstC c,(fun s:Int=>aloneM x (takeS fr s.toNat m.toNat) sec) (firstC c))) from rfl,
  bestF_bestC (aloneM x fr sec) (fun s:Int=>aloneM x (takeS fr s.toNat m.toNat) sec) _ _ rfl (fun c hc=>aloneM_taken hm hc)]
 unfold bestAtM
 cases bestC (chos (runsM x fr sec) m)<;>rfl
set_option maxHeartbeats 8000000 in
set_option maxRecDepth 20000 in
theorem rBest_any {w:World} {V:Option Addr} {vc:Nat} {x:Ve} (hv:Sl secR w (.slice V x.secs.length vc) x.secs) {F:Option Addr} {fc:Nat} {fr:List Bool} (hF:Sl boR w (.slice F fr.length fc) fr) (hc:(checkV x).2=0) (hlen:(fr.length:Int)=sum (allRows x)) (hfl:fr.length≤4096) {sec:Nat} (hs:sec<x.secs.length) {m:Int} (hm:1≤m∧m≤8):
 Calls Tryz.prog 112 #[.agg #[.int .i64 x.shards,.int .i64 x.ttl,.int .i64 x.session,.slice V x.secs.length vc],.slice F fr.length fc,.int .i64 (sec:Int),.int .i64 m] w fun e w'=>e=.returned (.int .i64 (bestAtM x fr sec m))∧Below w.heap.size w w':=by
 have HM:=Lib.hid (bestF_all (x:=x) (fr:=fr) (sec:=sec) hm.1)
 have C1:=Lib.hid (fun W (hb:Below w.heap.size w W)=>rChoices_any (hv.up hb) (hF.up hb) hc hlen hs hm)
 have C2:=Lib.hid (fun W (hb:Below w.heap.size w W) (s:Nat) (h:s+m.toNat≤fr.length)=>rWithout_any (s:=s) (n:=m.toNat) (hF.up hb) (by omega) h)
 have C3:=Lib.hid (fun W (hb:Below w.heap.size w W) A c (s:Nat) (h:Sl boR W (.slice A fr.length c) (takeS fr s m.toNat))=>show Calls Tryz.prog 149 #[.agg #[.int .i64 x.shards,.int .i64 x.ttl,.int .i64 x.session,.slice V x.secs.length vc],.slice A fr.length c,.int .i64 (sec:Int)] W fun e w'=>e=.returned (.int .i64 (aloneM x (takeS fr s m.toNat) sec))∧Below W.heap.size W w' by
  have h1:(takeS fr s m.toNat).length=fr.length:=takeS_len _ _ _
  have h2:=rAlone_any (hv.up hb) (fr:=takeS fr s m.toNat) (F:=A) (fc:=c) (by rw[h1];exact h) hc (by rw[h1];exact hlen) hs
  rw[h1] at h2
  exact h2)
 have HIN:=Lib.hid (show∀s∈(chos (runsM x fr sec) m).map firstC,0≤s∧s+m≤fr.length from fun s h=>by
  obtain⟨c,hcm,rfl⟩:=List.mem_map.1 h
  exact chos_in hc hlen hs hcm)
 obtain⟨hm1,hm2⟩:=hm
 have hmN:(m.toNat:Int)=m:=by omega
 rw[hmN] at C2
 generalize m.toNat=mN at*
 have HMN:=Lib.hid hmN
 generalize bestAtM x fr sec m=M at*
 generalize(chos (runsM x fr sec) m).map firstC=L at*
 obtain⟨f,hf⟩:∃f:Int→Int,f=fun s:Int=>aloneM x (takeS fr s.toNat mN) sec:=⟨_,rfl⟩
 have HFE:=Lib.hid (fun s:Nat=>show f (s:Int)=aloneM x (takeS fr s mN) sec by rw[hf];rfl)
 obtain⟨mp,hmp⟩:∃mp:Int→Int×Int,mp=fun s:Int=>(s,f s):=⟨_,rfl⟩
 have HMP:=Lib.hid (fun s:Int=>show mp s=(s,f s) by rw[hmp])
 have HM2:=Lib.hid (show(bestF (L.map mp)).1=M by subst hmp;subst hf;exact HM.out)
 clear hv hF hc hlen hs hmN hf hmp HM hfl
 go_enter Tryz.func112,Tryz.ntmps112
 go_upto_region 1 with fail
 obtain⟨q,hq⟩:∃q,w.heap.size=q:=⟨_,rfl⟩
 rw[hq]
 refine at_world (fun X=>Below w.heap.size w X∧BoxN X q 24 #[.int .i64 x.shards,.int .i64 x.ttl,.int .i64 x.session,.slice V x.secs.length vc]) ⟨ba _ _,hq▸BoxN.new w _ _⟩ fun w0 hw0=> ?_
 have B0:=Lib.hid hw0.1
 have K0:=Lib.hid hw0.2
 clear hw0
 have c0:=K0.out.cell 0 _ rfl
 have c1:=K0.out.cell 1 _ rfl
 have c2:=K0.out.cell 2 _ rfl
 have c3:=K0.out.cell 3 _ rfl
 have zq:=K0.out.lt
 go_wp2_with fail
 refine(C1.out _ B0.out).mono ?_
 rintro e w1 ⟨A1,ac,rfl,ho,hLl,hb⟩
 have B1:=Lib.hid (B0.out.trans (hb.mono B0.out.size))
 have K1:=Lib.hid (K0.out.later hb)
 have HS:=Lib.hid ho.sl
 clear hb ho c0 c1 c2 c3 zq K0 B0 C1
 go_wp2_with fail
 go_loopw [12,10,11] (fun iv av lv wr=> ∃(i:Nat) (a0 a1:Int),iv=.int .i64 (i:Int)∧i≤L.length∧av=.int .i64 a0∧lv=.int .i64 a1∧Hid (bestF ((L.take i).map mp)=(a0,a1))∧Hid (Below w1.heap.size w1 wr)) (fun iv _ _ _=>L.length-(intOf iv).toNat)
 case atStart=>exact⟨0,-1,0,rfl,Nat.zero_le _,rfl,rfl,Lib.hid (by simp[bestF]),Lib.hid (Below.refl _ _)⟩
 case round=>
  obtain⟨i,a0,a1,rfl,hi,rfl,rfl,HR,HB⟩:=hrel
  rename World=>wr
  have hi0:(0:Int)≤(i:Int):=by omega
  by_cases hlt:i<L.length
  case neg=>
   obtain rfl:i=L.length:=by omega
   have t0:decide ((L.length:Int)<(L.length:Int))=false:=by simp
   have hr:=HR.out
   rw[List.take_length] at hr
   have hM2:=Lib.hid (show M=a0 by rw[←HM2.out,hr])
   have B2:=Lib.hid (B1.out.trans (HB.out.mono B1.out.size))
   clear hr HR HM2
   go_wp2_with fail
   go_ret
   rw[←hq]
   exact⟨by rw[hM2.out];rfl,B2.out⟩
  have t0:decide ((i:Int)<(L.length:Int))=true:=decide_eq_true (by omega)
  have hi1:(i:Int)<(L.length:Int):=by omega
  have ni:IntKind.i64.wrap ((i:Int)+1)=(i:Int)+1:=IntWalk.i64_in _ (by omega)
  have hin:=HIN.out _ (List.getElem_mem hlt)
  have HN:=Lib.hid (show bestF ((L.take (i+1)).map mp)=if(bestF ((L.take i).map mp)).1<0∨f L[i]<(bestF ((L.take i).map mp)).2 then(L[i],f L[i]) else bestF ((L.take i).map mp) by
   rw[List.take_succ_eq_append_getElem hlt,List.map_append,List.map_cons,List.map_nil,bestF_snoc,HMP.out])
  rw[HR.out] at HN
  obtain⟨b,off,hA1,hbl,e0,_⟩:=HS.out.atI hlt
  subst hA1
  have HE0:=Lib.hid e0
  generalize L[i]=s at*
  obtain⟨s,rfl⟩:∃n:Nat,s=(n:Int):=⟨s.toNat,by omega⟩
  rw[HFE.out s] at HN
  have hsf:s+mN≤fr.length:=by have:=HMN.out;omega
  have C2s:=Lib.hid (fun W hb=>C2.out W hb s hsf)
  have C3s:=Lib.hid (fun W hb A c h=>C3.out W hb A c s h)
  generalize aloneM x (takeS fr s mN) sec=a at*
  clear e0 hbl hin HR
  go_upto_region 6 with fail
  have hlw:=B1.out.size
  refine wp_region_held (S:=fun X=>Below w1.heap.size w1 X) (by kernel_rfl) ?_
  have HSS:Below w1.heap.size w1 wr.drew:=bdd HB.out
  refine wpAnyH_take (i:=0) rfl (by kernel_rfl) (by kernel_rfl) (by kernel_rfl) (fun _ _ _ h=>h) (yieldsIf_load_mid rfl 24 (.tmp 4) rfl q 0 rfl [.int .i64 x.shards,.int .i64 x.ttl,.int .i64 x.session,.slice V x.secs.length vc] _ (fun W hb=>(K1.out.later hb).range2) Tryz.underlying24 rfl (by kernel_rfl)) HSS ?_
  refine wpAnyH_take (i:=1) (v:=.slice F fr.length fc) rfl (by kernel_rfl) (by kernel_rfl) (by kernel_rfl) (fun _ _ _ h=>h) (.inl ⟨rfl,fun W hS=>by go_simp⟩) HSS ?_
  refine wpAnyH_take (i:=2) (v:=.slice (some ⟨b,off,none⟩) L.length ac) rfl (by kernel_rfl) (by kernel_rfl) (by kernel_rfl) (fun _ _ _ h=>h) (.inl ⟨rfl,fun W hS=>by go_simp⟩) HSS ?_
  refine wpAnyH_take (i:=3) (v:=.int .i64 (i:Int)) rfl (by kernel_rfl) (by kernel_rfl) (by kernel_rfl) (fun _ _ _ h=>h) (.inl ⟨rfl,fun W hS=>by go_simp⟩) HSS ?_
  refine wpAnyH_take (i:=4) (v:=.pointer (some ⟨b,off+i,none⟩)) rfl (by kernel_rfl) (by kernel_rfl) (by kernel_rfl) (fun _ _ _ h=>h) (.inl ⟨rfl,fun W hS=>by go_simp⟩) HSS ?_
  refine wpAnyH_take (i:=5) (v:=.int .i64 (s:Int)) rfl (by kernel_rfl) (by kernel_rfl) (by kernel_rfl) (fun _ _ _ h=>h) (.inl ⟨rfl,fun W hS=>by(have e0:=cell_later hS HE0.out;clear hS;go_simp)⟩) HSS ?_
  refine wpAnyH_take (i:=6) (v:=.int .i64 m) rfl (by kernel_rfl) (by kernel_rfl) (by kernel_rfl) (fun _ _ _ h=>h) (.inl ⟨rfl,fun W hS=>by go_simp⟩) HSS ?_
  refine wpAnyH_take (i:=8) (v:=.int .i64 (sec:Int)) rfl (by kernel_rfl) (by kernel_rfl) (by kernel_rfl) (fun _ _ _ h=>h) (.inl ⟨rfl,fun W hS=>by go_simp⟩) HSS ?_
  refine wpAnyH_all (rs:=[7]) (by kernel_rfl) (by simp) fun j hj=> ?_
  obtain rfl:j=7:=by simpa using hj
  clear hj
  refine heldOp rfl fun K hK=> ?_
  go_wp2_with fail
  refine(C2s.out _ (B1.out.trans (HSS.mono hlw))).mono ?_
  rintro e w3 ⟨A3,c3,rfl,ho3,hb3⟩
  have HS3:=Lib.hid (show Below w1.heap.size w1 w3 from HSS.trans (hb3.mono HSS.size))
  have HO3:=Lib.hid ho3.sl
  clear hb3 ho3 HSS
  go_wp2_with fail
  refine hK.out _ _ ⟨HS3.out, ?_⟩
  clear hK K
  refine wpAnyH_all (rs:=[9]) (by kernel_rfl) (by simp) fun j hj=> ?_
  obtain rfl:j=9:=by simpa using hj
  clear hj
  refine heldOp rfl fun K hK=> ?_
  go_wp2_with fail
  refine(C3s.out _ (B1.out.trans (HS3.out.mono hlw)) _ _ HO3.out).mono ?_
  rintro e w4 ⟨rfl,hb4⟩
  have HS4:=Lib.hid (show Below w1.heap.size w1 w4 from HS3.out.trans (hb4.mono HS3.out.size))
  clear hb4
  go_wp2_with fail
  refine hK.out _ _ ⟨HS4.out, ?_⟩
  clear hK K
  refine wpAnyH_all (rs:=[10]) (by kernel_rfl) (by simp) fun j hj=> ?_
  obtain rfl:j=10:=by simpa using hj
  clear hj
  refine heldOp rfl fun K hK=> ?_
  go_wp2_with fail
  refine hK.out _ _ ⟨HS4.out, ?_⟩
  clear hK K
  refine wpAnyH_done (by kernel_rfl) ?_ _
  have e0:=cell_later HS4.out HE0.out
  by_cases h1:a0<0
  ·have t1:decide (a0<0)=true:=decide_eq_true h1
   rw[if_pos (.inl h1)] at HN
   go_wp2_with fail
   exact⟨⟨i+1,s,a,by go_num,by omega,rfl,rfl,HN,HS4⟩,by simp[intOf];omega⟩
  have t1:decide (a0<0)=false:=decide_eq_false h1
  by_cases h2:a<a1
  ·have t2:decide (a<a1)=true:=decide_eq_true h2
   rw[if_pos (.inr h2)] at HN
   go_wp2_with fail
   exact⟨⟨i+1,s,a,by go_num,by omega,rfl,rfl,HN,HS4⟩,by simp[intOf];omega⟩
  have t2:decide (a<a1)=false:=decide_eq_false h2
  rw[if_neg (by omega)] at HN
  go_wp2_with fail
  exact⟨⟨i+1,a0,a1,by go_num,by omega,rfl,rfl,HN,HS4⟩,by simp[intOf];omega⟩
def chErrM (x:Ve) (n:Nat) (sec m:Int):Int:=if adCheckM x n sec≠0 then adCheckM x n sec else if askedV m=false then 7 else 0
set_option maxHeartbeats 4000000 in
set_option maxRecDepth 20000 in
theorem rChoicesX_any {w:World} {V:Option Addr} {vc:Nat} {x:Ve} (hv:Sl secR w (.slice V x.secs.length vc) x.secs) {F:Option Addr} {fc:Nat} {fr:List Bool} (hF:Sl boR w (.slice F fr.length fc) fr) (sec m:Int):
 Calls Tryz.prog 111 #[.agg #[.int .i64 x.shards,.int .i64 x.ttl,.int .i64 x.session,.slice V x.secs.length vc],.slice F fr.length fc,.int .i64 sec,.int .i64 m] w fun e w'=> ∃v,e=.returned (.tuple #[v,.int .i64 (chErrM x fr.length sec m)])∧Below w.heap.size w w':=by
 have C1:=Lib.hid (fun W (hb:Below w.heap.size w W)=>rAdCheck_any (hv.up hb) F fr.length fc sec)
 have C2:=Lib.hid (fun W (hb:Below w.heap.size w W) (h:adCheckM x fr.length sec=0) (hm:1≤m∧m≤8)=>show Calls Tryz.prog 148 #[.agg #[.int .i64 x.shards,.int .i64 x.ttl,.int .i64 x.session,.slice V x.secs.length vc],.slice F fr.length fc,.int .i64 sec,.int .i64 m] W fun e w'=> ∃A n c,e=.returned (.slice A n c)∧Below W.heap.size W w' by
  obtain⟨h1,h2,h3,h4⟩:=adCheckM_ok h
  obtain⟨s,rfl⟩:∃n:Nat,sec=(n:Int):=⟨sec.toNat,by omega⟩
  exact(rChoices_any (hv.up hb) (hF.up hb) h1 h2 (by omega) hm).mono fun e w' ⟨A,c,h5,h6,h7,h8⟩=>⟨A,_,c,h5,h8⟩)
 have hE:=Lib.hid (show chErrM x fr.length sec m=if adCheckM x fr.length sec≠0 then adCheckM x fr.length sec else if askedV m=false then 7 else 0 from rfl)
 generalize chErrM x fr.length sec m=E at hE⊢
 generalize adCheckM x fr.length sec=K at*
 clear hv hF
 go_enter Tryz.func111,Tryz.ntmps111
 go_upto_region 1 with fail
 obtain⟨q,hq⟩:∃q,w.heap.size=q:=⟨_,rfl⟩
 rw[hq]
 refine at_world (fun X=>Below w.heap.size w X∧BoxN X q 24 #[.int .i64 x.shards,.int .i64 x.ttl,.int .i64 x.session,.slice V x.secs.length vc]) ⟨ba _ _,hq▸BoxN.new w _ _⟩ fun w0 hw0=> ?_
 have B0:=Lib.hid hw0.1
 have K0:=Lib.hid hw0.2
 clear hw0
 have c0:=K0.out.cell 0 _ rfl
 have c1:=K0.out.cell 1 _ rfl
 have c2:=K0.out.cell 2 _ rfl
 have c3:=K0.out.cell 3 _ rfl
 have zq:=K0.out.lt
 go_wp2_with fail
 refine(C1.out _ B0.out).mono ?_
 rintro e w1 ⟨rfl,hb⟩
 have B1:=Lib.hid (B0.out.trans (hb.mono B0.out.size))
 have K1:=Lib.hid (K0.out.later hb)
 clear hb c0 c1 c2 c3 zq K0 B0 C1
 have c0:=K1.out.cell 0 _ rfl
 have c1:=K1.out.cell 1 _ rfl
 have c2:=K1.out.cell 2 _ rfl
 have c3:=K1.out.cell 3 _ rfl
 have zq:=K1.out.lt
 by_cases h1:K=0
 case neg=>
  have t1:(K==0)=false:=by simpa using h1
  have t2:(K !=0)=true:=by simpa using h1
  have hE2:=Lib.hid (hE.out.trans (if_pos h1))
  clear h1 hE C2
  go_wp2_with fail
  exact bodyPost_ret (v:=.tuple #[.slice none 0 0,.int .i64 K]) (by simp[results,Tryz.results111,go_sem]) rfl ⟨.slice none 0 0,by rw[hE2.out],by first|exact B1.out|(rw[←hq];exact B1.out)⟩
 subst h1
 rw[if_neg (by simp)] at hE
 by_cases h2:m<1
 ·have t2:decide (m<1)=true:=decide_eq_true h2
  have hE2:=Lib.hid (show E=7 by rw[hE.out,if_pos (by unfold askedV;exact decide_eq_false (by omega))])
  clear h2 hE C2
  go_wp2_with fail
  exact bodyPost_ret (v:=.tuple #[.slice none 0 0,.int .i64 7]) (by simp[results,Tryz.results111,go_sem]) rfl ⟨.slice none 0 0,by rw[hE2.out],by first|exact B1.out|(rw[←hq];exact B1.out)⟩
 have t2:decide (m<1)=false:=decide_eq_false h2
 by_cases h3:8<m
 ·have t3:decide (8<m)=true:=decide_eq_true h3
  have hE2:=Lib.hid (show E=7 by rw[hE.out,if_pos (by unfold askedV;exact decide_eq_false (by omega))])
  clear h2 h3 hE C2
  go_wp2_with fail
  exact bodyPost_ret (v:=.tuple #[.slice none 0 0,.int .i64 7]) (by simp[results,Tryz.results111,go_sem]) rfl ⟨.slice none 0 0,by rw[hE2.out],by first|exact B1.out|(rw[←hq];exact B1.out)⟩
 have t3:decide (8<m)=false:=decide_eq_false h3
 have hE2:=Lib.hid (show E=0 by rw[hE.out,if_neg (by unfold askedV;simp;omega)])
 have C3:=Lib.hid (fun W hb=>C2.out W hb rfl (by omega))
 clear h2 h3 hE C2
 go_wp2_with fail
 refine(C3.out _ B1.out).mono ?_
 rintro e w2 ⟨A,n,c,rfl,hb⟩
 have B2:=Lib.hid (B1.out.trans (hb.mono B1.out.size))
 clear hb
 go_wp2_with fail
 exact bodyPost_ret (v:=.tuple #[.slice A n c,.int .i64 0]) (by simp[results,Tryz.results111,go_sem]) rfl ⟨.slice A n c,by rw[hE2.out],by first|exact B2.out|(rw[←hq];exact B2.out)⟩
set_option maxHeartbeats 4000000 in
set_option maxRecDepth 20000 in
theorem rAdBest_any {w:World} {V:Option Addr} {vc:Nat} {x:Ve} (hv:Sl secR w (.slice V x.secs.length vc) x.secs) {F:Option Addr} {fc:Nat} {fr:List Bool} (hF:Sl boR w (.slice F fr.length fc) fr) (sec m:Int):
 Calls Tryz.prog 73 #[.agg #[.int .i64 x.shards,.int .i64 x.ttl,.int .i64 x.session,.slice V x.secs.length vc],.slice F fr.length fc,.int .i64 sec,.int .i64 m] w fun e w'=>e=.returned (.tuple #[.int .i64 (adBestM x fr sec m).1,.int .i64 (adBestM x fr sec m).2])∧Below w.heap.size w w':=by
 have C1:=Lib.hid (fun W (hb:Below w.heap.size w W)=>rChoicesX_any (hv.up hb) (hF.up hb) sec m)
 have HX:=Lib.hid (show chErrM x fr.length sec m=0→adCheckM x fr.length sec=0∧(1≤m∧m≤8) from fun h=>by
  unfold chErrM at h
  split at h
  ·rename_i h1;exact absurd h h1
  ·rename_i h1
   split at h
   ·cases h
   ·rename_i h2
    exact⟨Decidable.not_not.1 h1,by unfold askedV at h2;simpa using h2⟩)
 have HS:=Lib.hid (show chErrM x fr.length sec m=0→∃s:Nat,sec=(s:Int) from fun h=>by
  obtain⟨_,_,h3,_⟩:=adCheckM_ok (HX.out h).1
  exact⟨sec.toNat,by omega⟩)
 have C2:=Lib.hid (fun W (hb:Below w.heap.size w W) (h:chErrM x fr.length sec m=0)=>show Calls Tryz.prog 112 #[.agg #[.int .i64 x.shards,.int .i64 x.ttl,.int .i64 x.session,.slice V x.secs.length vc],.slice F fr.length fc,.int .i64 sec,.int .i64 m] W fun e w'=>e=.returned (.int .i64 (bestAtM x fr sec.toNat m))∧Below W.heap.size W w' by
  obtain⟨h1,h2,h3,h4⟩:=adCheckM_ok (HX.out h).1
  have h5:=(HX.out h).2
  obtain⟨_,h6,_⟩:=checkV_ok h1
  obtain⟨s,rfl⟩:=HS.out h
  exact rBest_any (hv.up hb) (hF.up hb) h1 h2 (by omega) (by omega) h5)
 have hE:=Lib.hid (show adBestM x fr sec m=if chErrM x fr.length sec m≠0 then(0,chErrM x fr.length sec m) else if bestAtM x fr sec.toNat m<0 then(0,15) else(bestAtM x fr sec.toNat m,0) by
  by_cases h:chErrM x fr.length sec m=0
  ·obtain⟨h1,h2⟩:=HX.out h
   rw[if_neg (by simpa using h)]
   unfold adBestM
   rw[if_neg (by simpa using h1),if_neg (by unfold askedV;simpa using h2)]
   unfold bestAtM
   obtain⟨h3,h4,h5,h6⟩:=adCheckM_ok h1
   cases hb:bestC (chos (runsM x fr sec.toNat) m) with
   |none=>rfl
   |some c=>
    have h7:=chos_in h3 h4 (by omega) (bestC_mem hb)
    dsimp only
    rw[if_neg (by omega)]
    rfl
  ·rw[if_pos h]
   unfold adBestM
   unfold chErrM at h⊢
   split
   ·rfl
   ·rename_i h1
    rw[if_neg h1] at h
    split
    ·rfl
    ·rename_i h2
     rw[if_neg h2] at h
     exact absurd rfl h)
 generalize adBestM x fr sec m=M at hE⊢
 generalize chErrM x fr.length sec m=K at*
 generalize bestAtM x fr sec.toNat m=a at*
 clear hv hF HX HS
 go_enter Tryz.func73,Tryz.ntmps73
 go_upto_region 1 with fail
 obtain⟨q,hq⟩:∃q,w.heap.size=q:=⟨_,rfl⟩
 rw[hq]
 refine at_world (fun X=>Below w.heap.size w X∧BoxN X q 24 #[.int .i64 x.shards,.int .i64 x.ttl,.int .i64 x.session,.slice V x.secs.length vc]) ⟨ba _ _,hq▸BoxN.new w _ _⟩ fun w0 hw0=> ?_
 have B0:=Lib.hid hw0.1
 have K0:=Lib.hid hw0.2
 clear hw0
 have c0:=K0.out.cell 0 _ rfl
 have c1:=K0.out.cell 1 _ rfl
 have c2:=K0.out.cell 2 _ rfl
 have c3:=K0.out.cell 3 _ rfl
 have zq:=K0.out.lt
 go_wp2_with fail
 refine(C1.out _ B0.out).mono ?_
 rintro e w1 ⟨v1,rfl,hb⟩
 have B1:=Lib.hid (B0.out.trans (hb.mono B0.out.size))
 have K1:=Lib.hid (K0.out.later hb)
 clear hb c0 c1 c2 c3 zq K0 B0 C1
 have c0:=K1.out.cell 0 _ rfl
 have c1:=K1.out.cell 1 _ rfl
 have c2:=K1.out.cell 2 _ rfl
 have c3:=K1.out.cell 3 _ rfl
 have zq:=K1.out.lt
 by_cases h1:K=0
 case neg=>
  have t2:(K !=0)=true:=by simpa using h1
  have hE2:=Lib.hid (hE.out.trans (if_pos h1))
  clear h1 hE C2
  go_wp2_with fail
  exact bodyPost_ret (v:=.tuple #[.int .i64 0,.int .i64 K]) (by simp[results,Tryz.results73,go_sem]) rfl ⟨by rw[hE2.out],by first|exact B1.out|(rw[←hq];exact B1.out)⟩
 subst h1
 rw[if_neg (by simp)] at hE
 have C3:=Lib.hid (fun W hb=>C2.out W hb rfl)
 clear C2
 go_wp2_with fail
 refine(C3.out _ B1.out).mono ?_
 rintro e w2 ⟨rfl,hb⟩
 have B2:=Lib.hid (B1.out.trans (hb.mono B1.out.size))
 clear hb C3
 by_cases h2:a<0
 ·have t2:decide (a<0)=true:=decide_eq_true h2
  have hE2:=Lib.hid (hE.out.trans (if_pos h2))
  clear h2 hE
  go_wp2_with fail
  exact bodyPost_ret (v:=.tuple #[.int .i64 0,.int .i64 15]) (by simp[results,Tryz.results73,go_sem]) rfl ⟨by rw[hE2.out],by first|exact B2.out|(rw[←hq];exact B2.out)⟩
 ·have t2:decide (a<0)=false:=decide_eq_false h2
  have hE2:=Lib.hid (hE.out.trans (if_neg h2))
  clear h2 hE
  go_wp2_with fail
  exact bodyPost_ret (v:=.tuple #[.int .i64 a,.int .i64 0]) (by simp[results,Tryz.results73,go_sem]) rfl ⟨by rw[hE2.out],by first|exact B2.out|(rw[←hq];exact B2.out)⟩
end Go.Proofs.YtlckmjiioohcmaaGreatDoor

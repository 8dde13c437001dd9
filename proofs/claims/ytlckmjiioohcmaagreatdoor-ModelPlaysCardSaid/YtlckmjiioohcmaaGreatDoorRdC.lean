/-
  Walk of groundlingref19.runs. Conditions: as the theorem says.
-/
import Derived.Test.YtlckmjiioohcmaaGreatDoorRdB
namespace Go.Proofs.YtlckmjiioohcmaaGreatDoor
open Go.RowKit
theorem Rep.many_split {α:Type} {R:Rep α} {w:World}:∀{xs ys:List α} {cells:List Value},R.many w cells (xs++ys)→∃a b,cells=a++b∧R.many w a xs∧R.many w b ys
 |[],_,cells,h=>⟨[],cells,rfl,rfl,h⟩
 |x::xs,ys,cells,h=>by
  obtain⟨cs,rest,rfl,h1,h2⟩:=h
  obtain⟨a,b,rfl,h3,h4⟩:=Rep.many_split h2
  exact⟨cs++a,b,by simp,⟨cs,a,rfl,h1,h3⟩,h4⟩
theorem ruOk_mk {a b c:Int} (h0:0≤a) (h1:a≤1000000) (h2:0≤b) (h3:b≤1000000) (h4:0≤c) (h5:c≤1000000):RuOk ⟨a,b,c⟩:=⟨⟨h0,h1⟩,⟨h2,h3⟩,h4,h5⟩
theorem Own.putMany {e B g cap n:Nat} {w:World} {A:List Ru} {r0 r1 r2:Int} (h:Own ruR e B w (.slice (some ⟨g,0,none⟩) n cap) (A++[⟨r0,r1,r2⟩])) {m:Int} (hr:RuOk ⟨r0,r1,m⟩):
 Own ruR e B (w.setCell ⟨g,A.length*3+2,none⟩ (.int .i64 m)) (.slice (some ⟨g,0,none⟩) n cap) (A++[⟨r0,r1,m⟩])∧w.grownBy (w.setCell ⟨g,A.length*3+2,none⟩ (.int .i64 m)) (some g):=by
 have hn:=h.block.2.2
 obtain⟨cells,ho,hm⟩:=h
 subst hn
 obtain⟨c1,c2,rfl,h1,h2⟩:=Rep.many_split hm
 obtain⟨cs,rest,rfl,⟨rfl,_⟩,rfl⟩:=h2
 have hl:c1.length=A.length*3:=Rep.many_len h1
 obtain⟨h3,h4⟩:=ho.stored (A.length*3+2) (.int .i64 m)
 have he:(c1++(ruCells ⟨r0,r1,r2⟩++[])).set (A.length*3+2) (.int .i64 m)=c1++(ruCells ⟨r0,r1,m⟩++[]):=by
  rw[←hl,List.set_append_right _ _ (by omega),show c1.length+2-c1.length=2 by omega]
  rfl
 rw[he] at h3
 refine⟨⟨_, ?_,Rep.many_append (Rep.many_flat ruR_flat h1) (Rep.many_one (R:=ruR) ⟨rfl,hr⟩)⟩,h4⟩
 simpa using h3
theorem offR_sum {rows:List Int} (h:∀n∈rows,0≤n) (f:Nat):∀k,k≤rows.length→(offR rows f k:Int)=f+sum (rows.take k)
 |0,_=>by simp[offR,sum]
 |k+1,hk=>by
  have hn:=h _ (List.getElem_mem (show k<rows.length by omega))
  have ih:=offR_sum h f k (by omega)
  have hg:rows.getD k 0=rows[k]:=by simp[show k<rows.length by omega]
  rw[List.take_succ_eq_append_getElem (by omega),sum_snoc]
  simp only[offR,hg]
  omega
theorem rowOf_drop {fr:List Bool} {f n s:Nat} (h1:f≤s) (h2:s<f+n):(rowOf fr f n).drop (s-f)=fr.getD s false::(rowOf fr f n).drop (s+1-f):=by
 rw[List.drop_eq_getElem_cons (by simp[rowOf];omega),show s-f+1=s+1-f by omega]
 congr 1
 simp only[rowOf,List.getElem_map,List.getElem_range]
 rw[show f+(s-f)=s by omega]
def lastR (row:Int) (s c:Nat):List Ru:=if 0<c then[⟨row,((s-c:Nat):Int),(c:Int)⟩] else[]
theorem lastR_pos {row:Int} {s c:Nat} (h:0<c):lastR row s c=[⟨row,((s-c:Nat):Int),(c:Int)⟩]:=if_pos h
structure RowSt (row:Int) (fr:List Bool) (fn n s c:Nat) (A T:List Ru):Prop where
 cs:c≤s
 len:A.length+(lastR row s c).length≤s
 all:A++runsL row s c ((rowOf fr fn n).drop (s-fn))=T
theorem RowSt.free {row:Int} {fr:List Bool} {fn n s c:Nat} {A T:List Ru} (h:RowSt row fr fn n s c A T) (h1:fn≤s) (h2:s<fn+n) (hf:fr.getD s false=true):RowSt row fr fn n (s+1) (c+1) A T:=by
 obtain⟨a,b,d⟩:=h
 rw[rowOf_drop h1 h2,hf] at d
 refine⟨by omega, ?_,d⟩
 have:(lastR row (s+1) (c+1)).length=1:=by simp[lastR]
 omega
theorem RowSt.taken {row:Int} {fr:List Bool} {fn n s c:Nat} {A T:List Ru} (h:RowSt row fr fn n s c A T) (h1:fn≤s) (h2:s<fn+n) (hf:fr.getD s false=false):RowSt row fr fn n (s+1) 0 (A++lastR row s c) T:=by
 obtain⟨a,b,d⟩:=h
 rw[rowOf_drop h1 h2,hf] at d
 refine⟨by omega, ?_, ?_⟩
 ·simp[lastR] at b⊢;omega
 ·rw[←d,List.append_assoc];rfl
theorem RowSt.end_ {row:Int} {fr:List Bool} {fn n c:Nat} {A T:List Ru} (h:RowSt row fr fn n (fn+n) c A T):T=A++lastR row (fn+n) c∧T.length≤fn+n:=by
 obtain⟨a,b,d⟩:=h
 have e:(rowOf fr fn n).drop (fn+n-fn)=[]:=List.drop_eq_nil_of_le (by simp[rowOf])
 rw[e] at d
 have h:A++lastR row (fn+n) c=T:=d
 rw[←h]
 exact⟨rfl,by simpa using b⟩
set_option maxHeartbeats 4000000 in
set_option maxRecDepth 20000 in
theorem rRuns_any {w:World} {V:Option Addr} {vc:Nat} {x:Ve} (hv:Sl secR w (.slice V x.secs.length vc) x.secs) {F:Option Addr} {fc:Nat} {fr:List Bool} (hF:Sl boR w (.slice F fr.length fc) fr) (hc:(checkV x).2=0) (hlen:(fr.length:Int)=sum (allRows x)) {sec:Nat} (hs:sec<x.secs.length):
 Calls Tryz.prog 185 #[.agg #[.int .i64 x.shards,.int .i64 x.ttl,.int .i64 x.session,.slice V x.secs.length vc],.slice F fr.length fc,.int .i64 (sec:Int)] w fun e w'=> ∃A c,e=.returned (.slice A (runsM x fr sec).length c)∧Own ruR 206 w.heap.size w' (.slice A (runsM x fr sec).length c) (runsM x fr sec)∧Below w.heap.size w w':=by
 obtain⟨hok,hsum,_⟩:=checkV_ok hc
 have hse:=secE_ok (hok.2 sec hs)
 have hup:=upTo_bd (k:=sec) (by omega) fun j hj _=>hok.2 j hj
 have hfit:upTo x.secs sec+sum x.secs[sec].rows≤fr.length:=by
  rw[hlen]
  have h1:upTo x.secs (sec+1)=upTo x.secs sec+sum x.secs[sec].rows:=upTo_succ hs
  have h2:allRows x=(x.secs.take (sec+1)).flatMap (·.rows)++(x.secs.drop (sec+1)).flatMap (·.rows):=by
   rw[←List.flatMap_append,List.take_append_drop];rfl
  have h3:0≤sum ((x.secs.drop (sec+1)).flatMap (·.rows)):=sum_nonneg fun n hn=>by
   obtain⟨s,hs',hn⟩:=List.mem_flatMap.1 hn
   obtain⟨j,hj,rfl⟩:=List.getElem_of_mem (List.mem_of_mem_drop hs')
   have:=(secE_ok (hok.2 j hj)).2.1 n hn
   omega
  rw[h2,sum_append]
  have h4:upTo x.secs (sec+1)=sum ((x.secs.take (sec+1)).flatMap (·.rows)):=rfl
  omega
 have hlen4:fr.length≤4096:=by omega
 have HM:=Lib.hid (show runsM x fr sec=(List.range x.secs[sec].rows.length).flatMap (rowRuns fr x.secs[sec].rows (upTo x.secs sec).toNat) by rw[runsM_flat];simp[hs])
 generalize runsM x fr sec=M at HM⊢
 have HOFF:=Lib.hid (fun k (hk:k≤x.secs[sec].rows.length)=>offR_sum (rows:=x.secs[sec].rows) (fun n hn=>by have:=hse.2.1 n hn;omega) (upTo x.secs sec).toNat k hk)
 have C1:=Lib.hid (fun W (hb:Below w.heap.size w W) k (hk:k<x.secs[sec].rows.length)=>(some_row hc hs hk)▸rrow_any (hv.up hb) hc (sec:Int) (k:Int) (by omega))
 obtain⟨bV,off,A',c',rfl,hbl,e0,e1,e2,hin,_,_⟩:=hv.atS hs
 obtain⟨f0,hf0⟩:∃f0:Nat,upTo x.secs sec=(f0:Int):=⟨(upTo x.secs sec).toNat,by omega⟩
 have HSE:=Lib.hid hse
 have HV1:=Lib.hid e1
 rw[hf0] at HM HOFF hfit C1
 simp only[Int.toNat_natCast] at HM HOFF C1
 have HFIT:=Lib.hid hfit
 have HF:=Lib.hid hF
 have hnr:x.secs[sec].rows.length≤16:=hse.1
 clear hok hsum hse hup hc hlen hF e0 e1 e2 hin hf0 hfit hv
 generalize x.secs[sec].rows=rows at*
 have hs0:(0:Int)≤(sec:Int):=by omega
 have hs1:(sec:Int)<(x.secs.length:Int):=by omega
 go_enter Tryz.func185,Tryz.ntmps185
 go_upto_region 1 with fail
 obtain⟨q,hq⟩:∃q,w.heap.size=q:=⟨_,rfl⟩
 rw[hq]
 refine at_world (fun X=>Below w.heap.size w X∧BoxN X q 24 #[.int .i64 x.shards,.int .i64 x.ttl,.int .i64 x.session,.slice (some ⟨bV,off,none⟩) x.secs.length vc]) ⟨ba _ _,hq▸BoxN.new w _ _⟩ fun w0 hw0=> ?_
 have B0:=Lib.hid hw0.1
 have K0:=Lib.hid hw0.2
 clear hw0
 go_wp2_with fail
 go_loopw [8,7] (fun iv v wr=> ∃k:Nat,iv=.int .i64 (k:Int)∧k≤rows.length∧Hid (Own ruR 206 w.heap.size wr v ((List.range k).flatMap (rowRuns fr rows f0)))∧Hid (((List.range k).flatMap (rowRuns fr rows f0)).length≤offR rows f0 k)∧Hid (Below w.heap.size w wr)∧Hid (BoxN wr q 24 #[.int .i64 x.shards,.int .i64 x.ttl,.int .i64 x.session,.slice (some ⟨bV,off,none⟩) x.secs.length vc])) (fun iv _ _=>rows.length-(intOf iv).toNat)
 case atStart=>exact⟨0,rfl,Nat.zero_le _,Lib.hid (Own.nil _ _ _ _),Lib.hid (Nat.zero_le _),B0,K0⟩
 case round=>
  obtain⟨k,rfl,hk,HO,HL,HB,HK⟩:=hrel
  rename World=>wr
  clear B0 K0
  have c0:=HK.out.cell 0 _ rfl
  have c1:=HK.out.cell 1 _ rfl
  have c2:=HK.out.cell 2 _ rfl
  have c3:=HK.out.cell 3 _ rfl
  have zq:=HK.out.lt
  have v1:=cell_later HB.out HV1.out
  have hk0:(0:Int)≤(k:Int):=by omega
  by_cases hlt:k<rows.length
  case neg=>
   obtain rfl:k=rows.length:=by omega
   have t0:decide ((rows.length:Int)<(rows.length:Int))=false:=by simp
   obtain⟨A,c,rfl,_,_,ho⟩:=HO.out.form
   rw[←HM.out] at ho
   have HO2:=Lib.hid ho
   have HN:=Lib.hid (congrArg List.length HM.out)
   rw[show((List.range rows.length).flatMap (rowRuns fr rows f0)).length=M.length from HN.out.symm] at*
   clear ho HO HM
   go_wp2_with fail
   go_ret
   rw[←hq]
   exact⟨A,c,rfl,HO2.out,HB.out⟩
  have t0:decide ((k:Int)<(rows.length:Int))=true:=decide_eq_true (by omega)
  have hoff:=HOFF.out k hk
  have hoff1:=HOFF.out (k+1) hlt
  have hn:=HSE.out.2.1 _ (List.getElem_mem hlt)
  have hfit:=HFIT.out
  have hoffn:=HOFF.out rows.length (Nat.le_refl _)
  have hmono:=offR_le rows f0 (i:=k+1) (j:=rows.length) hlt
  rw[List.take_length] at hoffn
  have hoffs:offR rows f0 (k+1)=offR rows f0 k+rows[k].toNat:=by simp[offR,hlt]
  have CK:=Lib.hid (fun W hb=>C1.out W hb k hlt)
  have HT:=Lib.hid (show(List.range (k+1)).flatMap (rowRuns fr rows f0)=(List.range k).flatMap (rowRuns fr rows f0)++runsL (k:Int) (offR rows f0 k) 0 (rowOf fr (offR rows f0 k) rows[k].toNat) by
   rw[List.range_succ,List.flatMap_append]
   simp only[List.flatMap_cons,List.flatMap_nil,List.append_nil]
   unfold rowRuns
   simp[hlt])
  rw[←hoff] at CK
  generalize hfn1:offR rows f0 (k+1)=fn1 at*
  have HFN1:=Lib.hid hfn1
  generalize hT:(List.range (k+1)).flatMap (rowRuns fr rows f0)=T at*
  have HTE:=Lib.hid hT
  clear hT hfn1
  generalize offR rows f0 rows.length=fnn at*
  generalize offR rows f0 k=fn at*
  generalize(List.range k).flatMap (rowRuns fr rows f0)=P at*
  generalize hrk:rows[k]=rk at*
  obtain⟨n,rfl⟩:∃m:Nat,rk=(m:Int):=⟨rk.toNat,by omega⟩
  simp only[Int.toNat_natCast] at HT hoffs
  have hfn:fn+n≤fr.length:=by omega
  have hR0:=Lib.hid (show RowSt (k:Int) fr fn n fn 0 P T from⟨Nat.zero_le _,by have:=HL.out;simp[lastR];omega,by rw[Nat.sub_self,List.drop_zero];exact HT.out.symm⟩)
  subst hoffs
  clear hoff hoff1 hn hfit hoffn hmono HT HL hrk C1 HOFF HSE HFIT
  go_wp2_with fail
  refine(CK.out _ HB.out).mono ?_
  rintro e w1 ⟨rfl,hb⟩
  have HB1:=Lib.hid (HB.out.trans (hb.mono HB.out.size))
  have HK1:=Lib.hid (HK.out.later hb)
  have HO1:=Lib.hid (HO.out.up hb)
  clear hb c0 c1 c2 c3 zq v1 HB HK HO CK
  have hkr:k≤16:=by omega
  have hW:IntKind.i64.wrap ((fn:Int)+(n:Int))=(fn:Int)+(n:Int):=IntWalk.i64_in _ (by omega)
  go_wp2_with fail
  go_loopw [7,12,13] (fun v bg sv wi=> ∃(s c:Nat) (b:Bool) (A:List Ru),sv=.int .i64 (s:Int)∧bg=.bool b∧fn≤s∧s≤fn+n∧Hid (b=true↔0<c)∧Hid (RowSt (k:Int) fr fn n s c A T)∧Hid (Own ruR 206 w.heap.size wi v (A++lastR (k:Int) s c))∧Hid (Below w.heap.size w wi)∧Hid (BoxN wi q 24 #[.int .i64 x.shards,.int .i64 x.ttl,.int .i64 x.session,.slice (some ⟨bV,off,none⟩) x.secs.length vc])) (fun _ _ sv _=>fn+n-(intOf sv).toNat)
  case atStart=>exact⟨fn,0,false,P,rfl,rfl,Nat.le_refl _,by omega,Lib.hid (by simp),hR0,Lib.hid (by simpa[lastR] using HO1.out),HB1,HK1⟩
  case round=>
   obtain⟨s,c,bg,A,rfl,rfl,hs1',hs2',HBC,HR,HOi,HBi,HKi⟩:=hrel
   rename World=>wi
   clear HB1 HK1 HO1 hR0
   by_cases hse:s<fn+n
   case neg=>
    obtain rfl:s=fn+n:=by omega
    have t1:decide (((fn+n:Nat):Int)<(fn:Int)+(n:Int))=false:=decide_eq_false (by omega)
    have hT:=HR.out.end_
    have HT:=Lib.hid hT
    have HO2:=Lib.hid (show Own ruR 206 w.heap.size wi u7 T by rw[hT.1];exact HOi.out)
    clear hT HOi HR HBC
    have nk:IntKind.i64.wrap ((k:Int)+1)=(k:Int)+1:=IntWalk.i64_in _ (by omega)
    go_wp2_with fail
    exact⟨⟨k+1,by go_num,by omega,by rw[HTE.out];exact HO2,by rw[HTE.out,HFN1.out];exact Lib.hid HT.out.2,HBi,HKi⟩,by simp[intOf];omega⟩
   have t1:decide ((s:Int)<(fn:Int)+(n:Int))=true:=decide_eq_true (by omega)
   have hsf:s<fr.length:=by omega
   have hsi0:(0:Int)≤(s:Int):=by omega
   have hsi1:(s:Int)<(fr.length:Int):=by omega
   have ns:IntKind.i64.wrap ((s:Int)+1)=(s:Int)+1:=IntWalk.i64_in _ (by omega)
   obtain⟨b3,off3,rfl,hbl3,g0⟩:=(HF.out.up HBi.out).atB hsf
   have hgd:fr.getD s false=fr[s]:=by simp[hsf]
   have HF1:=Lib.hid (fun h=>HR.out.free hs1' hse h)
   have HF2:=Lib.hid (fun h=>HR.out.taken hs1' hse h)
   rw[hgd] at HF1 HF2
   clear hgd
   generalize fr[s]=bb at g0 HF1 HF2
   cases bb with
   |false=>
    have HN:=Lib.hid (HF2.out rfl)
    clear HF1 HF2
    go_wp2_with fail
    exact⟨⟨s+1,0,false,A++lastR (k:Int) s c,by go_num,rfl,by omega,by omega,Lib.hid (by simp),HN,Lib.hid (by simpa[lastR] using HOi.out),HBi,HKi⟩,by simp[intOf];omega⟩
   |true=>
    have HN:=Lib.hid (HF1.out rfl)
    clear HF1 HF2
    have hcs:=HR.out.cs
    have hlen0:=HR.out.len
    cases bg with
    |true=>
     have hc0:0<c:=HBC.out.1 rfl
     have ho:=HOi.out
     rw[lastR_pos hc0] at ho
     have hok:RuOk ⟨(k:Int),((s-c:Nat):Int),(c:Int)+1⟩:=ruOk_mk (by omega) (by omega) (by omega) (by omega) (by omega) (by omega)
     obtain⟨Av,cv,rfl,_,_,ho⟩:=ho.form
     obtain⟨g,cs,rfl,hg1,hg2,⟨rfl,hru⟩,hcg,hfg⟩:=ho.at_ (k:=A.length) (by simp)
     have ec:=hcg 2 (.int .i64 (c:Int)) (by simp[ruCells])
     have ef:=hfg (A.length*3+2)
     simp only[ruR] at ec
     have HP:=Lib.hid (ho.putMany hok)
     have HOx:=Lib.hid ho
     rw[List.length_append,List.length_singleton] at*
     have HE:=Lib.hid (lastR_pos (row:=(k:Int)) (s:=s+1) (c:=c+1) (by omega))
     clear hcg hfg ho hok HR HOi HBC hru
     generalize A.length=L at*
     have nc:IntKind.i64.wrap ((c:Int)+1)=(c:Int)+1:=IntWalk.i64_in _ (by omega)
     go_wp2_with fail
     have hbx:=HBi.out.grown HP.out.2 HBi.out.size (fun z hz=>by injection hz with hz;omega)
     have hkx:=HKi.out.kept HP.out.2 (fun e=>(Tag.of_box HKi.out).ne (Tag.of_own HOx.out) (by decide) (by injection e))
     exact⟨⟨s+1,c+1,true,A,by go_num,rfl,by omega,by omega,Lib.hid (by simp),HN,Lib.hid (by rw[HE.out];simpa using HP.out.1),Lib.hid hbx,Lib.hid hkx⟩,by simp[intOf];omega⟩
    |false=>
     obtain rfl:c=0:=by
      have:=HBC.out.2
      by_cases h:0<c
      ·exact absurd (this h) (by simp)
      ·omega
     have HOi':=Lib.hid (show Own ruR 206 w.heap.size wi u7 A by simpa[lastR] using HOi.out)
     have hA:A.length≤4096:=by omega
     have hro:RuOk ⟨(k:Int),(s:Int),0⟩:=ruOk_mk (by omega) (by omega) (by omega) (by omega) (by omega) (by omega)
     clear HOi HBC hcs hlen0
     go_upto_region 14 with(at_builtin;refine wpList_append_sl _ rfl (.tmp 48) (.tmp 52) 211 rfl ruR w.heap.size 206 _ 24 Tryz.underlying211 infoRu rfl (by decide) _ A rfl (HOi'.out.up (ba _ _)) _ [⟨(k:Int),(s:Int),0⟩] rfl (ru_one _ _ ⟨(k:Int),(s:Int),0⟩ rfl hro) (by simp;omega) (by decide) (by have:=HBi.out.size;simp[World.size_alloc];omega) (fun w' _ cs y h=>ruR_flat _ _ _ _ h) ?_;intro v1 w7 hown1 hg1 hat1)
     have HB7:=Lib.hid (show Below w.heap.size w w7 from(bal (o:=.cells #[.int .i64 (k:Int),.int .i64 (s:Int),.int .i64 0] 206) HBi.out).grown hg1 (by have:=HBi.out.size;simp[World.size_alloc];omega) (fun z hz=>(HOi'.out.lt z hz).1))
     have HK7:=Lib.hid ((HKi.out.alloc (.cells #[.int .i64 (k:Int),.int .i64 (s:Int),.int .i64 0] 206)).kept hg1 (fun e=>HOi'.out.not_box HKi.out (by decide) e.symm))
     obtain⟨Av,cv,rfl,_,_,ho⟩:=hown1.form
     obtain⟨g,cs,rfl,hg1',hg2',⟨rfl,hru⟩,hcg,hfg⟩:=ho.at_ (k:=A.length) (by simp)
     have ec:=hcg 2 (.int .i64 0) (by simp[ruCells])
     have ef:=hfg (A.length*3+2)
     simp only[ruR] at ec
     have HP:=Lib.hid (ho.putMany (ruOk_mk (c:=1) hro.1.1 hro.1.2 hro.2.1.1 hro.2.1.2 (by omega) (by omega)))
     have HOx:=Lib.hid ho
     rw[List.length_append,List.length_singleton] at*
     have HE:=Lib.hid (lastR_pos (row:=(k:Int)) (s:=s+1) (c:=0+1) (by omega))
     clear hcg hfg ho hro HR hru hown1 hat1 hg1 HOi' HBi HKi
     generalize A.length=L at*
     go_wp2_with fail
     have hbx:=HB7.out.grown HP.out.2 HB7.out.size (fun z hz=>by injection hz with hz;omega)
     have hkx:=HK7.out.kept HP.out.2 (fun e=>(Tag.of_box HK7.out).ne (Tag.of_own HOx.out) (by decide) (by injection e))
     exact⟨⟨s+1,0+1,true,A,by go_num,rfl,by omega,by omega,Lib.hid (by simp),HN,Lib.hid (by rw[HE.out];simpa using HP.out.1),Lib.hid hbx,Lib.hid hkx⟩,by simp[intOf];omega⟩
end Go.Proofs.YtlckmjiioohcmaaGreatDoor

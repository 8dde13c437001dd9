/-
  The law SchedStuck, in company. Conditions: as each theorem says.
-/
import Derived.Test.YtlngbdggehghgaaCyJ
namespace Go.Proofs.Ytlngbdggehghgaa
set_option linter.unusedSimpArgs false
set_option linter.unusedVariables false
namespace Co
open Go.Conc Go.RowKit
noncomputable def body4:Code:=Try.f4.body.getD .skip
noncomputable def end4:Code:=sndC (sndC (sndC (sndC (sndC (sndC (sndC (sndC (sndC body4))))))))
theorem nums_len (l:List Nat):(nums l).length=l.length:=by simp[nums]
set_option maxRecDepth 100000 in
set_option maxHeartbeats 8000000 in
theorem stuck_end {Z:Goal} {v:World} {D:Wd} {B s:Nat} {S:SS} {x:RW} (hZ:Z.Ok Try.prog) (hF:Fin Z v) (hD:Wd.Ok D) (hkp:∀x F w,D.mem x F w→Kp v.heap.size v w) (hop:S.closed=false) {g:Gh} {bs:List Nat} {M:Nat→Prop} {w:World}
 (L:Liv D B g s bs S x M w) (j0 j1 j2 j3 j6 j7 j8 j9 j10 j12 j13 j14 j15 j16 j17 j18 j19 j20 j21 j22 j23 j24 j25 j26 j27 j28 j29 j30 j31 j32 j33 j34 j35 j36 j37 j38 j39 j40 j41 j42 j43 j44 j45 j46 j47 j48 j49 j50 j51 j52 j53 j54 j55 j56 j57 j58 j59 j60 j61 j62 j63 j64 j65 j66 j67 j68 j69 j70 j71 j72 j73 j74 j75 j76 j77 j78 j79 j80 j81 j82 j83 j84 j85 j86 j87 j88 j89 j90 j91 j92 j93 j94 j95 j96 j97 j98 j99 j100 j101 j102 j103 j104 j105 j106 j107 j108:Value):Co Try.prog Z 0 (g.fx Try.prog κL 0) (G ((Go.Conc.base 4).at ⟨#[j0,j1,j2,j3,.bool false,.pointer (some ⟨s,0,none⟩),j6,j7,j8,j9,j10,.int .i64 ((alI S).length:Int),j12,j13,j14,j15,j16,j17,j18,j19,j20,j21,j22,j23,j24,j25,j26,j27,j28,j29,j30,j31,j32,j33,j34,j35,j36,j37,j38,j39,j40,j41,j42,j43,j44,j45,j46,j47,j48,j49,j50,j51,j52,j53,j54,j55,j56,j57,j58,j59,j60,j61,j62,j63,j64,j65,j66,j67,j68,j69,j70,j71,j72,j73,j74,j75,j76,j77,j78,j79,j80,j81,j82,j83,j84,j85,j86,j87,j88,j89,j90,j91,j92,j93,j94,j95,j96,j97,j98,j99,j100,j101,j102,j103,j104,j105,j106,j107,j108],[]⟩ [.code end4]) []) w:=by
 have hX:=L.ok
 simp only[end4,body4,Try.f4,Option.getD_some,fstC,sndC]
 refine co_seq hZ hX ?_
 refine c_region (n:=0) (J:=fun _ a=>Co Try.prog Z 0 (g.fx Try.prog κL 0) a w) (Co.calmly hZ hX) [0,1,2,3,4,5,6] rfl ?_
 refine co_value hZ hX (.pointer (some ⟨s,0,none⟩)) rfl rfl (by decide) (fun _=>by simp[go_sem,execOp,Act.eval]) (fun _=>by simp[go_sem,execOp,Act.eval]) ?_
 walk_nrm
 refine co_call2 hZ hX rfl rfl (by decide) rfl Try.func15 (by kernel_rfl) (by kernel_rfl) (vals:=#[.pointer (some ⟨s,0,none⟩)]) (by simp[Act.eval]) ?_
 refine Close_co hD hZ L.sch hop _ _ fun e X3 v3 hq=> ?_
 obtain⟨rfl,g3,rfl,L3,hC,c3⟩:=hq
 have KP:Kp v.heap.size v v3:=by
  obtain⟨_,_,_,_,hm,_⟩:=hC
  exact hkp _ _ _ hm
 have hX3:=L3.ok.fx κL_ok
 rw[Frame.finish_at]
 walk_nrm
 generalize((alI S).length:Int)=al
 refine co_value hZ hX3 (.tuple #[.int .i64 al,.int .i64 0]) rfl rfl (by decide) (fun _=>by simp[go_sem,execOp,Act.eval]) (fun _=>by simp[go_sem,execOp,Act.eval]) ?_
 walk_nrm
 refine co_value hZ hX3 (.int .i64 al) rfl rfl (by decide) (fun _=>by simp[go_sem,execOp,Act.eval]) (fun _=>by simp[go_sem,execOp,Act.eval]) ?_
 walk_nrm
 refine co_value hZ hX3 (.int .i64 0) rfl rfl (by decide) (fun _=>by simp[go_sem,execOp,Act.eval]) (fun _=>by simp[go_sem,execOp,Act.eval]) ?_
 walk_nrm
 refine co_value hZ hX3 (.int .i64 al) rfl rfl (by decide) (fun _=>by simp[go_sem,execOp,Act.eval]) (fun _=>by simp[go_sem,execOp,Act.eval]) ?_
 walk_nrm
 refine co_value hZ hX3 (.int .i64 0) rfl rfl (by decide) (fun _=>by simp[go_sem,execOp,Act.eval]) (fun _=>by simp[go_sem,execOp,Act.eval]) ?_
 walk_nrm
 refine co_region_end hZ hX3 ?_
 refine co_seq hZ hX3 ?_
 refine c_region (n:=0) (J:=fun _ a=>Co Try.prog Z 0 (g3.fx Try.prog κL 0) a v3) (Co.calmly hZ hX3) [0,1,2,3,4,5,6,7,8,9,10] rfl ?_
 refine co_value hZ hX3 (.int .i64 0) rfl rfl (by decide) (fun _=>by simp[go_sem,execOp,Act.eval]) (fun _=>by simp[go_sem,execOp,Act.eval]) ?_
 walk_nrm
 refine co_value hZ hX3 (.bool true) rfl rfl (by decide) (fun _=>by simp[go_sem,execOp,Act.eval]) (fun _=>by simp[go_sem,execOp,Act.eval]) ?_
 walk_nrm
 refine co_value hZ hX3 (.bool true) rfl rfl (by decide) (fun _=>by simp[go_sem,execOp,Act.eval]) (fun _=>by simp[go_sem,execOp,Act.eval]) ?_
 walk_nrm
 refine co_value hZ hX3 (.int .i64 al) rfl rfl (by decide) (fun _=>by simp[go_sem,execOp,Act.eval]) (fun _=>by simp[go_sem,execOp,Act.eval]) ?_
 walk_nrm
 refine co_value hZ hX3 (.int .i64 al) rfl rfl (by decide) (fun _=>by simp[go_sem,execOp,Act.eval]) (fun _=>by simp[go_sem,execOp,Act.eval]) ?_
 walk_nrm
 refine co_value hZ hX3 (.bool true) rfl rfl (by decide) (fun _=>by simp[go_sem,execOp,Act.eval]) (fun _=>by simp[go_sem,execOp,Act.eval]) ?_
 walk_nrm
 refine co_value hZ hX3 (.bool true) rfl rfl (by decide) (fun _=>by simp[go_sem,execOp,Act.eval]) (fun _=>by simp[go_sem,execOp,Act.eval]) ?_
 walk_nrm
 refine co_value hZ hX3 (.bool true) rfl rfl (by decide) (fun _=>by simp[go_sem,execOp,Act.eval]) (fun _=>by simp[go_sem,execOp,Act.eval]) ?_
 walk_nrm
 refine co_call2 hZ hX3 rfl rfl (by decide) rfl Try.func11 (by kernel_rfl) (by kernel_rfl) (vals:=#[]) (by simp[Act.eval]) ?_
 refine awake_co hZ L3 _ _ fun e X9 v9 hq9=> ?_
 obtain⟨rfl,⟨g9,rfl,L9⟩,c9⟩:=hq9
 have hX9:=L9.ok.fx κL_ok
 rw[Frame.finish_at]
 walk_nrm
 refine co_value hZ hX9 (.bool true) rfl rfl (by decide) (fun _=>by simp[go_sem,execOp,Act.eval]) (fun _=>by simp[go_sem,execOp,Act.eval]) ?_
 walk_nrm
 refine co_value hZ hX9 (.bool true) rfl rfl (by decide) (fun _=>by simp[go_sem,execOp,Act.eval]) (fun _=>by simp[go_sem,execOp,Act.eval]) ?_
 walk_nrm
 refine co_region_end hZ hX9 ?_
 refine co_ret hZ hX9 ?_
 exact fin_leave hF L9 (KP.still c9).out rfl rfl Try.func4 (fun w=>by simp[results,Try.results4,go_sem]) (fun w=>by simp[results,Try.results4,go_sem]) (by kernel_rfl)
theorem plc_succ (S:SS) (p:Ru→Bool) (k:Nat):(plc S p (k+1)).length=(plc S p k).length+(if(match S.rs[k]? with|some r=>p r|none=>false)=true then 1 else 0):=by
 unfold plc
 rw[List.range_succ,List.filter_append,List.length_append]
 congr 1
 rw[List.filter_cons,List.filter_nil]
 cases h:S.rs[k]? with
 |none=>rfl
 |some r=>
  show(if p r=true then[k] else[]).length=if p r=true then 1 else 0
  cases p r<;>rfl
theorem plc_all (S:SS) (p:Ru→Bool) {k:Nat} (h:S.rs.length≤k):(plc S p k).length=(plc S p S.rs.length).length:=by
 obtain⟨m,rfl⟩:∃m,k=S.rs.length+m:=⟨k-S.rs.length,by omega⟩
 clear h
 induction m with
 |zero=>rfl
 |succ m ih=>
  rw[←Nat.add_assoc,plc_succ,ih,List.getElem?_eq_none (by omega)]
  simp
def alv (S:SS) (k:Nat):Nat:=(plc S (fun r=> !decide (r.wait.kind=2)) k).length
set_option maxRecDepth 100000 in
set_option maxHeartbeats 8000000 in
theorem stuck_co {v:World} {p:Pn} {kv fv pv:Value} {pk:List Int} (H:LawP v p kv fv pv pk):LawCo 4 #[.agg #[kv,fv,.int .i64 p.most],pv] v:=by
 intro Z g hZ L hF
 have hX:=L.ok.fx κL_ok
 obtain⟨kA,kc,rfl,k1,k2,_⟩:=H.pn.ks.open
 obtain⟨fA,fc,rfl,f1,f2,_⟩:=H.pn.fs.open
 have HH:=Hd.mk H
 clear H
 rw[enter_at _ Try.func4 (by kernel_rfl:Try.f4.body=some body4),Try.ntmps4]
 walk_nrm
 simp only[body4,Try.f4,Option.getD_some]
 refine co_seq hZ hX ?_
 refine co_code hZ hX TT (by decide) (by kernel_rfl) (by kernel_rfl) fun K hK u hu=> ?_
 have hz0:u.heap.size=v.heap.size:=by rw[hu.heap]
 go_wp2_with fail
 refine hK.out _ _ (co_same (hu.alloc _) ?_)
 clear hK K hu hz0 u
 refine at_world (fun y=>Chg (fun _=>False) v y∧Cells y v.heap.size [.slice kA p.ks.length kc,.slice fA p.fs.length fc,.int .i64 p.most]) ⟨Chg.alloc _ _ _,Cells.new v [.slice kA p.ks.length kc,.slice fA p.fs.length fc,.int .i64 p.most] 25⟩ fun x1 hx1=> ?_
 have C1:=Hd.mk hx1.1
 have BX:=Hd.mk hx1.2
 clear hx1
 refine co_seq hZ hX ?_
 refine c_region (n:=0) (J:=fun _ a=>Co Try.prog Z 0 (g.fx Try.prog κL 0) a x1) (Co.calmly hZ hX) [0,1,2,3,4,5,6,7] rfl ?_
 refine co_op hZ hX TT.toTable (by decide) (R:=fun y u=>y=.agg #[.slice kA p.ks.length kc,.slice fA p.fs.length fc,.int .i64 p.most]∧Same u x1) rfl rfl (by kernel_rfl) (fun u hu=>⟨.agg #[.slice kA p.ks.length kc,.slice fA p.fs.length fc,.int .i64 p.most],u, ?_,rfl,hu⟩) (fun y u hh=> ?_)
 ·have d0:u.cell? ⟨v.heap.size,0,none⟩=some (.slice kA p.ks.length kc):=(by unfold World.cell?;rw[hu.heap];exact BX.out.c 0 _ rfl)
  have d1:u.cell? ⟨v.heap.size,1,none⟩=some (.slice fA p.fs.length fc):=(by unfold World.cell?;rw[hu.heap];exact BX.out.c 1 _ rfl)
  have d2:u.cell? ⟨v.heap.size,2,none⟩=some (.int .i64 p.most):=(by unfold World.cell?;rw[hu.heap];exact BX.out.c 2 _ rfl)
  simp[go_sem,execOp,Act.eval,d0,d1,d2]
 obtain⟨rfl,hu⟩:=hh
 refine co_same hu ?_
 clear hu u
 walk_nrm
 refine co_value hZ hX (pv) rfl rfl (by decide) (fun _=>by simp[go_sem,execOp,Act.eval]) (fun _=>by simp[go_sem,execOp,Act.eval]) ?_
 walk_nrm
 refine co_call2 hZ hX rfl rfl (by decide) rfl Try.func10 (by kernel_rfl) (by kernel_rfl) (vals:=#[.agg #[.slice kA p.ks.length kc,.slice fA p.fs.length fc,.int .i64 p.most],pv]) (by simp[Act.eval]) ?_
 refine HH.out.played hZ L C1.out _ _ fun e X2 v2 hq=> ?_
 cases hpb:plBad p pk with
 |true=>
  obtain⟨rfl,⟨g2,rfl,L2⟩,c2⟩:=hq.bad hpb
  have hX2:=L2.ok.fx κL_ok
  have C2:=C1.out.trans c2 (fun _ _=>id)
  rw[Frame.finish_at]
  walk_nrm
  refine co_value hZ hX2 (.tuple #[.pointer none,.pointer none]) rfl rfl (by decide) (fun _=>by simp[go_sem,execOp,Act.eval]) (fun _=>by simp[go_sem,execOp,Act.eval]) ?_
  walk_nrm
  refine co_value hZ hX2 (.pointer none) rfl rfl (by decide) (fun _=>by simp[go_sem,execOp,Act.eval]) (fun _=>by simp[go_sem,execOp,Act.eval]) ?_
  walk_nrm
  refine co_value hZ hX2 (.pointer none) rfl rfl (by decide) (fun _=>by simp[go_sem,execOp,Act.eval]) (fun _=>by simp[go_sem,execOp,Act.eval]) ?_
  walk_nrm
  refine co_value hZ hX2 (.pointer none) rfl rfl (by decide) (fun _=>by simp[go_sem,execOp,Act.eval]) (fun _=>by simp[go_sem,execOp,Act.eval]) ?_
  walk_nrm
  refine co_value hZ hX2 (.pointer none) rfl rfl (by decide) (fun _=>by simp[go_sem,execOp,Act.eval]) (fun _=>by simp[go_sem,execOp,Act.eval]) ?_
  walk_nrm
  refine co_region_end hZ hX2 ?_
  refine co_seq hZ hX2 ?_
  refine co_seq hZ hX2 ?_
  refine co_code hZ hX2 TT (by decide) (by kernel_rfl) (by kernel_rfl) fun K hK u hu=> ?_
  go_wp2_with fail
  refine hK.out _ _ (co_same hu ?_)
  clear hK K hu u
  refine co_cond (t:=true) hZ hX2 (by simp[Act.eval]) ?_
  simp only[↓reduceIte]
  refine co_seq hZ hX2 ?_
  refine c_region (n:=0) (J:=fun _ a=>Co Try.prog Z 0 (g2.fx Try.prog κL 0) a v2) (Co.calmly hZ hX2) [0,1] rfl ?_
  refine co_call2 hZ hX2 rfl rfl (by decide) rfl Try.func11 (by kernel_rfl) (by kernel_rfl) (vals:=#[]) (by simp[Act.eval]) ?_
  refine awake_co hZ L2 _ _ fun e X9 v9 hq9=> ?_
  obtain⟨rfl,⟨g9,rfl,L9⟩,c9⟩:=hq9
  have hX9:=L9.ok.fx κL_ok
  rw[Frame.finish_at]
  walk_nrm
  refine co_value hZ hX9 (.bool true) rfl rfl (by decide) (fun _=>by simp[go_sem,execOp,Act.eval]) (fun _=>by simp[go_sem,execOp,Act.eval]) ?_
  walk_nrm
  refine co_region_end hZ hX9 ?_
  refine co_ret hZ hX9 ?_
  exact fin_leave hF L9 (C2.trans c9 (fun _ _=>id)) rfl rfl Try.func4 (fun w=>by simp[results,Try.results4,go_sem]) (fun w=>by simp[results,Try.results4,go_sem]) (by kernel_rfl)
 |false=>
  obtain⟨s,b,B,g2,bs2,M2,rfl,rfl,hD,L2,hop,c2,_⟩:=hq.good HH.out hpb
  have hX2:=L2.ok
  rw[Frame.finish_at]
  walk_nrm
  refine co_value hZ hX2 (.tuple #[.pointer (some ⟨s,0,none⟩),.pointer (some ⟨b,0,none⟩)]) rfl rfl (by decide) (fun _=>by simp[go_sem,execOp,Act.eval]) (fun _=>by simp[go_sem,execOp,Act.eval]) ?_
  walk_nrm
  refine co_value hZ hX2 (.pointer (some ⟨s,0,none⟩)) rfl rfl (by decide) (fun _=>by simp[go_sem,execOp,Act.eval]) (fun _=>by simp[go_sem,execOp,Act.eval]) ?_
  walk_nrm
  refine co_value hZ hX2 (.pointer (some ⟨b,0,none⟩)) rfl rfl (by decide) (fun _=>by simp[go_sem,execOp,Act.eval]) (fun _=>by simp[go_sem,execOp,Act.eval]) ?_
  walk_nrm
  refine co_value hZ hX2 (.pointer (some ⟨s,0,none⟩)) rfl rfl (by decide) (fun _=>by simp[go_sem,execOp,Act.eval]) (fun _=>by simp[go_sem,execOp,Act.eval]) ?_
  walk_nrm
  refine co_value hZ hX2 (.pointer (some ⟨b,0,none⟩)) rfl rfl (by decide) (fun _=>by simp[go_sem,execOp,Act.eval]) (fun _=>by simp[go_sem,execOp,Act.eval]) ?_
  walk_nrm
  refine co_region_end hZ hX2 ?_
  refine co_seq hZ hX2 ?_
  refine co_seq hZ hX2 ?_
  refine co_code hZ hX2 TT (by decide) (by kernel_rfl) (by kernel_rfl) fun K hK u hu=> ?_
  go_wp2_with fail
  refine hK.out _ _ (co_same hu ?_)
  clear hK K hu u
  refine co_cond (t:=false) hZ hX2 (by simp[Act.eval]) ?_
  simp only[Bool.false_eq_true,↓reduceIte]
  refine co_skip hZ hX2 ?_
  clear hq c2 C1 BX
  clear hpb HH
  generalize plS (DW v b (.slice kA p.ks.length kc) p.ks) p pk=S at L2 hop
  generalize plX (DW v b (.slice kA p.ks.length kc) p.ks) p pk=x at L2
  have hkp:∀x F w,(DW v b (.slice kA p.ks.length kc) p.ks).mem x F w→Kp v.heap.size v w:=fun _ _ _ h=>DW_kp h
  generalize DW v b (.slice kA p.ks.length kc) p.ks=D at hD L2 hkp
  have hr0:readyS S=0:=by unfold readyS;rw[hop];rfl
  have hE:=Lib.hid (show stuckS S D.o x=if enI S D.o x=[] then nums (alI S) else[] by unfold stuckS;rw[hop];rfl)
  refine co_seq hZ hX2 ?_
  refine co_code hZ hX2 TT (by decide) (by kernel_rfl) (by kernel_rfl) fun K hK u hu=> ?_
  have C0:=same_chg (F:=fun _=>False) hu
  obtain⟨tv,uv,PP⟩:=L2.pl hD C0
  have R:=(Enabled_any x PP.sm PP.en PP.obj).mono (fun e w h=>by rw[hr0,hop,if_neg (by decide)] at h;exact h)
  have R:=Lib.hid R
  have C0:=Hd.mk C0
  have hlt:=Hd.mk (fun k (hk:M2 k)=>(show k<u.heap.size by rw[hu.heap];exact L2.lt k hk))
  clear hu PP
  go_wp2_with (go_at_call 16;refine R.out.mono ?_;rintro e v4 ⟨lv,rfl,hown,hb⟩;obtain⟨lA,lc,rfl,hl1,hl2,_⟩:=hown.form;have HO:=Hd.mk hown;clear hown;have HB:=Hd.mk hb;clear hb)
  refine hK.out _ _ ?_
  have C1':=C0.out.trans (Chg.of_below (F:=fun _=>False) HB.out) (fun _ _=>id)
  have L2:=L2.still hD C1'
  rw[nums_len] at hl1⊢
  clear HO
  clear hK K R C0 HB C1' hlt
  refine co_seq hZ hX2 ?_
  refine co_code hZ hX2 TT (by decide) (by kernel_rfl) (by kernel_rfl) fun K hK u hu=> ?_
  have C0:=same_chg (F:=fun _=>False) hu
  obtain⟨tv,uv,PP⟩:=L2.pl hD C0
  have R:=(Stuck_any x PP.sm PP.en PP.obj).mono (fun e w h=>by rw[hr0] at h;exact h)
  have R:=Lib.hid R
  have C0:=Hd.mk C0
  have hlt:=Hd.mk (fun k (hk:M2 k)=>(show k<u.heap.size by rw[hu.heap];exact L2.lt k hk))
  clear hu PP
  go_wp2_with (go_at_call 17;refine R.out.mono ?_;rintro e v5 ⟨mv,rfl,hown,hb⟩;obtain⟨mA,mc,rfl,hm1,hm2,_⟩:=hown.form;have HO:=Hd.mk hown;clear hown;have HB:=Hd.mk hb;clear hb)
  refine hK.out _ _ ?_
  have C1':=C0.out.trans (Chg.of_below (F:=fun _=>False) HB.out) (fun _ _=>id)
  have L2:=L2.still hD C1'
  clear HO
  clear hK K R C0 HB C1' hlt
  have hn1:=Lib.hid (show(enI S D.o x).length=0↔enI S D.o x=[] from List.length_eq_zero_iff)
  have hn2:=Lib.hid (show(stuckS S D.o x).length=if(enI S D.o x).length=0 then(alI S).length else 0 by
   rw[hE.out]
   by_cases h:enI S D.o x=[]
   ·rw[if_pos h,if_pos (by rw[h];rfl),nums_len]
   ·rw[if_neg h,if_neg (fun e=>h (List.length_eq_zero_iff.1 e))];rfl)
  have hnx:=Lib.hid (show(enI S D.o x).length=0→pickE D S x 0=3∨pickE D S x 0=4 from fun h=>by
   unfold pickE nextS
   rw[if_neg (by decide)]
   split
   ·exact .inl rfl
   ·rw[if_pos (List.length_eq_zero_iff.1 h)];exact .inr rfl)
  have hl3:(enI S D.o x).length≤200:=Nat.le_trans (plc_len _ _ _) (by obtain⟨_,_,h⟩:=L2.pl hD (Chg.refl _ _);exact h.sm.ok.few)
  have hm3:(alI S).length≤200:=Nat.le_trans (plc_len _ _ _) (by obtain⟨_,_,h⟩:=L2.pl hD (Chg.refl _ _);exact h.sm.ok.few)
  have hrl:S.rs.length≤200:=by obtain⟨_,_,h⟩:=L2.pl hD (Chg.refl _ _);exact h.sm.ok.few
  clear hE hn1
  generalize(enI S D.o x).length=n1 at hl1 hn2 hnx hl3
  generalize(stuckS S D.o x).length=n2 at hm1 hn2
  have hm4:n2≤200:=by have:=hn2.out;split at this<;>omega
  refine co_seq hZ hX2 ?_
  refine co_seq hZ hX2 ?_
  refine co_code hZ hX2 TT (by decide) (by kernel_rfl) (by kernel_rfl) fun K hK u hu=> ?_
  suffices hM:∀(j0 j1 j2 j3 j6 j11 j12 j13 j14 j15 j16 j17 j18 j19 j20 j21 j22 j23 j24 j25 j26 j27 j28 j29 j30 j31 j32 j33 j34 j35 j36 j37 j38 j39 j40 j41 j42 j43 j44 j45 j46 j47 j48 j49 j50 j51 j52 j54 j55 j56 j57 j58 j59 j60 j61 j62 j63 j64 j65 j66 j67 j68 j69 j70 j71 j72 j73 j74 j75 j76 j77 j78 j79 j80 j81 j82 j83 j84 j85 j86 j87 j88 j89 j90 j91 j92 j93 j94 j95 j96 j97 j98 j99 j100 j101 j102 j103 j104 j105 j106 j107 j108:Value),K #[j0,j1,j2,j3,.bool false,.pointer (some ⟨s,0,none⟩),j6,.slice lA n1 lc,.int .i64 0,.slice mA n2 mc,.int .i64 0,j11,j12,j13,j14,j15,j16,j17,j18,j19,j20,j21,j22,j23,j24,j25,j26,j27,j28,j29,j30,j31,j32,j33,j34,j35,j36,j37,j38,j39,j40,j41,j42,j43,j44,j45,j46,j47,j48,j49,j50,j51,j52,.bool false,j54,j55,j56,j57,j58,j59,j60,j61,j62,j63,j64,j65,j66,j67,j68,j69,j70,j71,j72,j73,j74,j75,j76,j77,j78,j79,j80,j81,j82,j83,j84,j85,j86,j87,j88,j89,j90,j91,j92,j93,j94,j95,j96,j97,j98,j99,j100,j101,j102,j103,j104,j105,j106,j107,j108] u by
   have hn2':=hn2.out
   by_cases h1:n1=0
   ·subst h1
    clear hn2 hn2' hnx
    go_wp2_with fail
    exact hM _ _ _ _ _ _ _ _ _ _ _ _ _ _ _ _ _ _ _ _ _ _ _ _ _ _ _ _ _ _ _ _ _ _ _ _ _ _ _ _ _ _ _ _ _ _ _ _ _ _ _ _ _ _ _ _ _ _ _ _ _ _ _ _ _ _ _ _ _ _ _ _ _ _ _ _ _ _ _ _ _ _ _ _ _ _ _ _ _ _ _ _ _ _ _ _ _ _ _ _ _ _
   ·rw[if_neg h1] at hn2'
    subst hn2'
    clear hn2 hnx
    have h1:0<n1:=by omega
    go_wp2_with fail
    exact hM _ _ _ _ _ _ _ _ _ _ _ _ _ _ _ _ _ _ _ _ _ _ _ _ _ _ _ _ _ _ _ _ _ _ _ _ _ _ _ _ _ _ _ _ _ _ _ _ _ _ _ _ _ _ _ _ _ _ _ _ _ _ _ _ _ _ _ _ _ _ _ _ _ _ _ _ _ _ _ _ _ _ _ _ _ _ _ _ _ _ _ _ _ _ _ _ _ _ _ _ _ _
  intro j0 j1 j2 j3 j6 j11 j12 j13 j14 j15 j16 j17 j18 j19 j20 j21 j22 j23 j24 j25 j26 j27 j28 j29 j30 j31 j32 j33 j34 j35 j36 j37 j38 j39 j40 j41 j42 j43 j44 j45 j46 j47 j48 j49 j50 j51 j52 j54 j55 j56 j57 j58 j59 j60 j61 j62 j63 j64 j65 j66 j67 j68 j69 j70 j71 j72 j73 j74 j75 j76 j77 j78 j79 j80 j81 j82 j83 j84 j85 j86 j87 j88 j89 j90 j91 j92 j93 j94 j95 j96 j97 j98 j99 j100 j101 j102 j103 j104 j105 j106 j107 j108
  refine hK.out _ _ (co_same hu ?_)
  clear hK K hu
  refine co_cond (t:=false) hZ hX2 (by simp[Act.eval]) ?_
  simp only[Bool.false_eq_true,↓reduceIte]
  refine co_skip hZ hX2 ?_
  refine co_seq hZ hX2 ?_
  refine co_code hZ hX2 TT (by decide) (by kernel_rfl) (by kernel_rfl) fun K hK u hu=> ?_
  go_wp2_with fail
  refine hK.out _ _ (co_same hu ?_)
  clear hK K hu u
  refine co_seq hZ hX2 ?_
  refine co_code hZ hX2 TT (by decide) (by kernel_rfl) (by kernel_rfl) fun K hK u hu=> ?_
  have C0:=same_chg (F:=fun _=>False) hu
  obtain⟨tv,uv,PP⟩:=L2.pl hD C0
  have hT:=Lib.hid (fun(W:World) (hb:Below u.heap.size u W) (n:Int) (hn:Bd n)=>Task_any (PP.up hb).sm n hn)
  have C0:=Hd.mk C0
  clear hu PP
  suffices hM:∀w,Below u.heap.size u w→∀(j0 j1 j2 j3 j6 j8 j10 j12 j13 j14 j15 j16 j17 j18 j19 j20 j21 j22 j23 j24 j25 j26 j27 j28 j29 j30 j31 j32 j33 j34 j35 j36 j37 j38 j39 j40 j41 j42 j43 j44 j45 j46 j47 j48 j49 j50 j51 j52 j53 j54 j55 j56 j57 j58 j59 j60 j61 j62 j63 j64 j65 j66 j67 j68 j69 j70 j71 j72 j73 j74 j75 j76 j77 j78 j79 j80 j81 j82 j83 j84 j85 j86 j87 j88 j89 j90 j91 j92 j93 j94 j95 j96 j97 j98 j99 j100 j101 j102 j103 j104 j105 j106 j107 j108:Value),K #[j0,j1,j2,j3,.bool false,.pointer (some ⟨s,0,none⟩),j6,.slice lA n1 lc,j8,.slice mA n2 mc,j10,.int .i64 ((alI S).length:Int),j12,j13,j14,j15,j16,j17,j18,j19,j20,j21,j22,j23,j24,j25,j26,j27,j28,j29,j30,j31,j32,j33,j34,j35,j36,j37,j38,j39,j40,j41,j42,j43,j44,j45,j46,j47,j48,j49,j50,j51,j52,j53,j54,j55,j56,j57,j58,j59,j60,j61,j62,j63,j64,j65,j66,j67,j68,j69,j70,j71,j72,j73,j74,j75,j76,j77,j78,j79,j80,j81,j82,j83,j84,j85,j86,j87,j88,j89,j90,j91,j92,j93,j94,j95,j96,j97,j98,j99,j100,j101,j102,j103,j104,j105,j106,j107,j108] w by
   have HM:=Hd.mk hM
   clear hK hM
   go_wp2_with fail
   go_loopw [11,12] (fun al i wr=> ∃k:Nat,k≤200∧al=.int .i64 (alv S k:Int)∧i=.int .i64 ((k:Int)+1)∧Hid (Below u.heap.size u wr)) (fun _ i _=>201-(intOf i).toNat)
   case atStart=>exact⟨0,by omega,rfl,rfl,Below.refl _ _⟩
   case round=>
    obtain⟨k,hk,rfl,rfl,hb⟩:=hrel
    have hal:=Lib.hid (plc_succ S (fun r=> !decide (r.wait.kind=2)) k)
    have hale:alv S k≤k:=plc_len _ _ _
    by_cases hlt:k<200
    ·have R:=hT.out _ hb.out ((k:Int)+1) (by unfold Bd;omega)
     by_cases hkl:k<S.rs.length
     ·have hf:findS S ((k:Int)+1)=0:=by unfold findS;rw[hop,if_neg (by decide),if_pos (by omega)]
      have ht:taskS S ((k:Int)+1)=(S.rs[k].task,S.rs[k].wait):=by unfold taskS;rw[if_pos hf,show((k:Int)+1-1).toNat=k by omega,List.getElem?_eq_getElem hkl];rfl
      rw[ht,hf] at R
      rw[List.getElem?_eq_getElem hkl] at hal
      generalize S.rs[k]=r at R hal
      simp only[Tk.cells,Wa.cells] at R
      have R:=Lib.hid R
      obtain⟨tk,⟨wk,wo,wt⟩,ag⟩:=r
      simp only at R hal
      by_cases hw:wk=2
      ·subst hw
       have hal2:alv S (k+1)=alv S k:=by simpa[alv] using hal.out
       clear hal hT
       go_wp2_with (go_at_call 13;refine R.out.mono ?_;rintro e w2 ⟨rfl,hb2⟩;have HB:=Hd.mk hb2;clear hb2)
       go_roundw
       case rel=>exact⟨k+1,by omega,by rw[hal2],by go_num,bal (bal (hb.out.trans (HB.out.mono hb.out.size)))⟩
       case measure=>simp[intOf];omega
      ·have hal2:alv S (k+1)=alv S k+1:=by have:=hal.out;simpa[alv,hw] using this
       clear hal hT
       go_wp2_with (go_at_call 13;refine R.out.mono ?_;rintro e w2 ⟨rfl,hb2⟩;have HB:=Hd.mk hb2;clear hb2)
       go_roundw
       case rel=>exact⟨k+1,by omega,by rw[hal2];go_num,by go_num,bal (bal (hb.out.trans (HB.out.mono hb.out.size)))⟩
       case measure=>simp[intOf];omega
     ·have hf:findS S ((k:Int)+1)=4:=by unfold findS;rw[hop,if_neg (by decide),if_neg (by omega)]
      have ht:taskS S ((k:Int)+1)=(⟨0,0,0,0,0,0,0⟩,⟨0,0,0⟩):=by unfold taskS;rw[if_neg (by rw[hf];decide)]
      rw[ht,hf] at R
      rw[List.getElem?_eq_none (by omega)] at hal
      have hal2:alv S (k+1)=alv S k:=by simpa[alv] using hal.out
      simp only[Tk.cells,Wa.cells] at R
      have R:=Lib.hid R
      clear hal hT
      go_wp2_with (go_at_call 13;refine R.out.mono ?_;rintro e w2 ⟨rfl,hb2⟩;have HB:=Hd.mk hb2;clear hb2)
      go_roundw
      case rel=>exact⟨k+1,by omega,by rw[hal2],by go_num,bal (bal (hb.out.trans (HB.out.mono hb.out.size)))⟩
      case measure=>simp[intOf];omega
    ·have hke:k=200:=by omega
     subst hke
     have hale2:alv S 200=(alI S).length:=plc_all _ _ hrl
     rw[hale2]
     clear hal hT hlt hale hale2
     go_wp2_with fail
     exact HM.out _ hb.out _ _ _ _ _ _ _ _ _ _ _ _ _ _ _ _ _ _ _ _ _ _ _ _ _ _ _ _ _ _ _ _ _ _ _ _ _ _ _ _ _ _ _ _ _ _ _ _ _ _ _ _ _ _ _ _ _ _ _ _ _ _ _ _ _ _ _ _ _ _ _ _ _ _ _ _ _ _ _ _ _ _ _ _ _ _ _ _ _ _ _ _ _ _ _ _ _ _ _ _ _ _ _ _
  intro w hbw j0 j1 j2 j3 j6 j8 j10 j12 j13 j14 j15 j16 j17 j18 j19 j20 j21 j22 j23 j24 j25 j26 j27 j28 j29 j30 j31 j32 j33 j34 j35 j36 j37 j38 j39 j40 j41 j42 j43 j44 j45 j46 j47 j48 j49 j50 j51 j52 j53 j54 j55 j56 j57 j58 j59 j60 j61 j62 j63 j64 j65 j66 j67 j68 j69 j70 j71 j72 j73 j74 j75 j76 j77 j78 j79 j80 j81 j82 j83 j84 j85 j86 j87 j88 j89 j90 j91 j92 j93 j94 j95 j96 j97 j98 j99 j100 j101 j102 j103 j104 j105 j106 j107 j108
  have C1':=C0.out.trans (Chg.of_below (F:=fun _=>False) hbw) (fun _ _=>id)
  refine hK.out _ _ ?_
  have L2:=L2.still hD C1'
  clear hK K hT C0 C1' hbw
  refine co_seq hZ hX2 ?_
  refine co_seq hZ hX2 ?_
  by_cases h1:n1=0
  ·have hx3:=hnx.out h1
   have hn3:n2=(alI S).length:=by rw[hn2.out,if_pos h1]
   clear hnx hn2
   subst h1
   refine co_code hZ hX2 TT (by decide) (by kernel_rfl) (by kernel_rfl) fun K hK u hu=> ?_
   go_wp2_with fail
   refine hK.out _ _ (co_same hu ?_)
   clear hK K hu u
   refine co_cond (t:=true) hZ hX2 (by simp[Act.eval]) ?_
   simp only[↓reduceIte]
   refine co_seq hZ hX2 ?_
   refine c_region (n:=0) (J:=fun _ a=>Co Try.prog Z 0 (g2.fx Try.prog κL 0) a w) (Co.calmly hZ hX2) [0,1,2,3,4,5,6] rfl ?_
   refine co_value hZ hX2 (.pointer (some ⟨s,0,none⟩)) rfl rfl (by decide) (fun _=>by simp[go_sem,execOp,Act.eval]) (fun _=>by simp[go_sem,execOp,Act.eval]) ?_
   walk_nrm
   refine co_call2 hZ hX2 rfl rfl (by decide) rfl Try.func18 (by kernel_rfl) (by kernel_rfl) (vals:=#[.pointer (some ⟨s,0,none⟩),.int .i64 0]) (by simp[Act.eval]) ?_
   refine Pick_co hD hZ L2.sch hop (by unfold Bd;decide) _ _ fun e X' v6 hq=> ?_
   obtain⟨rfl,hA⟩:=hq
   have hne:¬pickE D S x 0=0:=by omega
   rw[if_neg hne]
   have hps:pickS D S x 0=(S,x):=by unfold pickS;rw[if_neg hne]
   rw[hps] at hA
   obtain⟨g6,bs6,M6,rfl,L6,_,_⟩:=hA.open hD
   have hX6:=L6.ok
   rw[Frame.finish_at]
   walk_nrm
   clear hps hne
   generalize pickE D S x 0=pe at hx3⊢
   refine co_value hZ hX6 (.tuple #[.int .i64 0,.int .i64 pe]) rfl rfl (by decide) (fun _=>by simp[go_sem,execOp,Act.eval]) (fun _=>by simp[go_sem,execOp,Act.eval]) ?_
   walk_nrm
   refine co_value hZ hX6 (.int .i64 0) rfl rfl (by decide) (fun _=>by simp[go_sem,execOp,Act.eval]) (fun _=>by simp[go_sem,execOp,Act.eval]) ?_
   walk_nrm
   refine co_value hZ hX6 (.int .i64 pe) rfl rfl (by decide) (fun _=>by simp[go_sem,execOp,Act.eval]) (fun _=>by simp[go_sem,execOp,Act.eval]) ?_
   walk_nrm
   refine co_value hZ hX6 (.int .i64 0) rfl rfl (by decide) (fun _=>by simp[go_sem,execOp,Act.eval]) (fun _=>by simp[go_sem,execOp,Act.eval]) ?_
   walk_nrm
   refine co_value hZ hX6 (.int .i64 pe) rfl rfl (by decide) (fun _=>by simp[go_sem,execOp,Act.eval]) (fun _=>by simp[go_sem,execOp,Act.eval]) ?_
   walk_nrm
   refine co_region_end hZ hX6 ?_
   refine co_seq hZ hX6 ?_
   refine co_code hZ hX6 TT (by decide) (by kernel_rfl) (by kernel_rfl) fun K hK u hu=> ?_
   suffices hM:∀(j0 j1 j2 j3 j6 j7 j8 j9 j10 j12 j13 j14 j15 j16 j17 j18 j19 j20 j21 j22 j23 j24 j25 j26 j27 j28 j29 j30 j31 j32 j33 j34 j35 j36 j37 j38 j39 j40 j41 j42 j43 j44 j45 j46 j47 j48 j49 j50 j51 j52 j53 j54 j55 j56 j57 j58 j59 j60 j61 j62 j63 j64 j65 j66 j67 j68 j69 j70 j71 j72 j73 j74 j75 j76 j77 j78 j79 j80 j81 j82 j83 j84 j85 j86 j87 j88 j89 j90 j91 j92 j94 j95 j96 j97 j98 j99 j100 j101 j102 j103 j104 j105 j106 j107 j108:Value),K #[j0,j1,j2,j3,.bool false,.pointer (some ⟨s,0,none⟩),j6,j7,j8,j9,j10,.int .i64 ((alI S).length:Int),j12,j13,j14,j15,j16,j17,j18,j19,j20,j21,j22,j23,j24,j25,j26,j27,j28,j29,j30,j31,j32,j33,j34,j35,j36,j37,j38,j39,j40,j41,j42,j43,j44,j45,j46,j47,j48,j49,j50,j51,j52,j53,j54,j55,j56,j57,j58,j59,j60,j61,j62,j63,j64,j65,j66,j67,j68,j69,j70,j71,j72,j73,j74,j75,j76,j77,j78,j79,j80,j81,j82,j83,j84,j85,j86,j87,j88,j89,j90,j91,j92,.bool false,j94,j95,j96,j97,j98,j99,j100,j101,j102,j103,j104,j105,j106,j107,j108] u by
    generalize(alI S).length=al at hn3 hm3 hM
    subst hn3
    rcases hx3 with rfl|rfl
    ·go_wp2_with fail
     exact hM _ _ _ _ _ _ _ _ _ _ _ _ _ _ _ _ _ _ _ _ _ _ _ _ _ _ _ _ _ _ _ _ _ _ _ _ _ _ _ _ _ _ _ _ _ _ _ _ _ _ _ _ _ _ _ _ _ _ _ _ _ _ _ _ _ _ _ _ _ _ _ _ _ _ _ _ _ _ _ _ _ _ _ _ _ _ _ _ _ _ _ _ _ _ _ _ _ _ _ _ _ _ _ _ _
    ·go_wp2_with fail
     exact hM _ _ _ _ _ _ _ _ _ _ _ _ _ _ _ _ _ _ _ _ _ _ _ _ _ _ _ _ _ _ _ _ _ _ _ _ _ _ _ _ _ _ _ _ _ _ _ _ _ _ _ _ _ _ _ _ _ _ _ _ _ _ _ _ _ _ _ _ _ _ _ _ _ _ _ _ _ _ _ _ _ _ _ _ _ _ _ _ _ _ _ _ _ _ _ _ _ _ _ _ _ _ _ _ _
   intro j0 j1 j2 j3 j6 j7 j8 j9 j10 j12 j13 j14 j15 j16 j17 j18 j19 j20 j21 j22 j23 j24 j25 j26 j27 j28 j29 j30 j31 j32 j33 j34 j35 j36 j37 j38 j39 j40 j41 j42 j43 j44 j45 j46 j47 j48 j49 j50 j51 j52 j53 j54 j55 j56 j57 j58 j59 j60 j61 j62 j63 j64 j65 j66 j67 j68 j69 j70 j71 j72 j73 j74 j75 j76 j77 j78 j79 j80 j81 j82 j83 j84 j85 j86 j87 j88 j89 j90 j91 j92 j94 j95 j96 j97 j98 j99 j100 j101 j102 j103 j104 j105 j106 j107 j108
   refine hK.out _ _ (co_same hu ?_)
   clear hK K hu
   refine co_cond (t:=false) hZ hX6 (by simp[Act.eval]) ?_
   simp only[Bool.false_eq_true,↓reduceIte]
   refine co_skip hZ hX6 ?_
   have h:=stuck_end hZ hF hD hkp hop L6
   simp only[end4,body4,Try.f4,Option.getD_some,sndC] at h
   exact h _ _ _ _ _ _ _ _ _ _ _ _ _ _ _ _ _ _ _ _ _ _ _ _ _ _ _ _ _ _ _ _ _ _ _ _ _ _ _ _ _ _ _ _ _ _ _ _ _ _ _ _ _ _ _ _ _ _ _ _ _ _ _ _ _ _ _ _ _ _ _ _ _ _ _ _ _ _ _ _ _ _ _ _ _ _ _ _ _ _ _ _ _ _ _ _ _ _ _ _ _ _ _ _ _ _
  ·clear hnx hn2
   have h1:0<n1:=by omega
   refine co_code hZ hX2 TT (by decide) (by kernel_rfl) (by kernel_rfl) fun K hK u hu=> ?_
   go_wp2_with fail
   refine hK.out _ _ (co_same hu ?_)
   clear hK K hu u
   refine co_cond (t:=false) hZ hX2 (by simp[Act.eval]<;>omega) ?_
   simp only[Bool.false_eq_true,↓reduceIte]
   refine co_skip hZ hX2 ?_
   have h:=stuck_end hZ hF hD hkp hop L2
   simp only[end4,body4,Try.f4,Option.getD_some,sndC] at h
   exact h _ _ _ _ _ _ _ _ _ _ _ _ _ _ _ _ _ _ _ _ _ _ _ _ _ _ _ _ _ _ _ _ _ _ _ _ _ _ _ _ _ _ _ _ _ _ _ _ _ _ _ _ _ _ _ _ _ _ _ _ _ _ _ _ _ _ _ _ _ _ _ _ _ _ _ _ _ _ _ _ _ _ _ _ _ _ _ _ _ _ _ _ _ _ _ _ _ _ _ _ _ _ _ _ _ _
end Co
end Go.Proofs.Ytlngbdggehghgaa

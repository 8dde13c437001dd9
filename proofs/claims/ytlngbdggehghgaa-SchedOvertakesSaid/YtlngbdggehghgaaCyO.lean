/-
  The law SchedOvertakes, in company. Conditions: as each theorem says.
-/
import Derived.Test.YtlngbdggehghgaaCyJ
import Derived.Test.YtlngbdggehghgaaCyN
namespace Go.Proofs.Ytlngbdggehghgaa
set_option linter.unusedSimpArgs false
set_option linter.unusedVariables false
namespace Co
open Go.Conc Go.RowKit
theorem FairS_closed (D:Wd) (S:SS) (x:RW):(FairS D 1 S x).2.1.closed=S.closed:=by
 show(if(1:Int)<0 then((0,7),S,x) else fairS D (1:Int).toNat 0 S x:(Int×Int)×SS×RW).2.1.closed=S.closed
 rw[if_neg (by decide),show((1:Int).toNat)=1 from rfl]
 unfold fairS
 split
 ·unfold fairS
  exact giveS_closed _ _ _ _ _
 ·rfl
noncomputable def body3:Code:=Try.f3.body.getD .skip
noncomputable def rest3:Code:=sndC (sndC (sndC body3))
noncomputable def lb3:Code:=inC (inC (sndC (fstC rest3)))
set_option maxRecDepth 100000 in
set_option maxHeartbeats 8000000 in
theorem over_end {Z:Goal} {v:World} {D:Wd} {B s:Nat} {S:SS} {x:RW} (hZ:Z.Ok Try.prog) (hF:Fin Z v) (hD:Wd.Ok D) (hkp:∀x F w,D.mem x F w→Kp v.heap.size v w) (hop:S.closed=false) {g:Gh} {bs:List Nat} {M:Nat→Prop} {w:World}
 (L:Liv D B g s bs S x M w) (j0 j1 j2 j3 j6 j7 j8 j9 j10 j11 j12 j13 j14 j15 j16 j17 j18 j19 j20 j21 j22 j23 j24 j25 j26 j27 j28 j29 j30 j31 j32 j33 j34 j35 j36 j37 j38 j39 j40 j41 j42 j43 j44 j45 j46 j47 j48 j49 j50 j51 j52 j53 j54 j55 j56 j57 j58 j59 j60 j61 j62 j63 j64 j65 j66 j67 j68 j69 j70 j71 j72 j73 j74 j75 j76 j77:Value):Co Try.prog Z 0 (g.fx Try.prog κL 0) (G ((Go.Conc.base 3).at ⟨#[j0,j1,j2,j3,.bool false,.pointer (some ⟨s,0,none⟩),j6,j7,j8,j9,j10,j11,j12,j13,j14,j15,j16,j17,j18,j19,j20,j21,j22,j23,j24,j25,j26,j27,j28,j29,j30,j31,j32,j33,j34,j35,j36,j37,j38,j39,j40,j41,j42,j43,j44,j45,j46,j47,j48,j49,j50,j51,j52,j53,j54,j55,j56,j57,j58,j59,j60,j61,j62,j63,j64,j65,j66,j67,j68,j69,j70,j71,j72,j73,j74,j75,j76,j77],[]⟩ [.code (sndC rest3)]) []) w:=by
 have hX:=L.ok
 simp only[rest3,body3,Try.f3,Option.getD_some,sndC]
 refine co_seq hZ hX ?_
 refine c_region (n:=0) (J:=fun _ a=>Co Try.prog Z 0 (g.fx Try.prog κL 0) a w) (Co.calmly hZ hX) [0,1,2,3,4,5,6] rfl ?_
 refine co_value hZ hX (.pointer (some ⟨s,0,none⟩)) rfl rfl (by decide) (fun _=>by simp[go_sem,execOp,Act.eval]) (fun _=>by simp[go_sem,execOp,Act.eval]) ?_
 walk_nrm
 refine co_call2 hZ hX rfl rfl (by decide) rfl Try.func15 (by kernel_rfl) (by kernel_rfl) (vals:=#[.pointer (some ⟨s,0,none⟩)]) (by simp[Act.eval]) ?_
 refine Close_co hD hZ L.sch hop _ _ fun e X3 v3 hq=> ?_
 obtain⟨rfl,g3,rfl,L3,hC,c3⟩:=hq
 have KP:Kp v.heap.size v v3:=by
  obtain⟨_,_,_,_,hm,_⟩:=hC
  exact hkp _ _ _ hm
 have hX3:=L3.ok.fx κL_ok
 rw[Frame.finish_at]
 walk_nrm
 generalize((alI S).length:Int)=al
 refine co_value hZ hX3 (.tuple #[.int .i64 al,.int .i64 0]) rfl rfl (by decide) (fun _=>by simp[go_sem,execOp,Act.eval]) (fun _=>by simp[go_sem,execOp,Act.eval]) ?_
 walk_nrm
 refine co_value hZ hX3 (.int .i64 al) rfl rfl (by decide) (fun _=>by simp[go_sem,execOp,Act.eval]) (fun _=>by simp[go_sem,execOp,Act.eval]) ?_
 walk_nrm
 refine co_value hZ hX3 (.int .i64 0) rfl rfl (by decide) (fun _=>by simp[go_sem,execOp,Act.eval]) (fun _=>by simp[go_sem,execOp,Act.eval]) ?_
 walk_nrm
 refine co_value hZ hX3 (.int .i64 al) rfl rfl (by decide) (fun _=>by simp[go_sem,execOp,Act.eval]) (fun _=>by simp[go_sem,execOp,Act.eval]) ?_
 walk_nrm
 refine co_value hZ hX3 (.int .i64 0) rfl rfl (by decide) (fun _=>by simp[go_sem,execOp,Act.eval]) (fun _=>by simp[go_sem,execOp,Act.eval]) ?_
 walk_nrm
 refine co_region_end hZ hX3 ?_
 refine co_seq hZ hX3 ?_
 refine c_region (n:=0) (J:=fun _ a=>Co Try.prog Z 0 (g3.fx Try.prog κL 0) a v3) (Co.calmly hZ hX3) [0,1,2,3,4,5] rfl ?_
 refine co_value hZ hX3 (.int .i64 0) rfl rfl (by decide) (fun _=>by simp[go_sem,execOp,Act.eval]) (fun _=>by simp[go_sem,execOp,Act.eval]) ?_
 walk_nrm
 refine co_value hZ hX3 (.bool true) rfl rfl (by decide) (fun _=>by simp[go_sem,execOp,Act.eval]) (fun _=>by simp[go_sem,execOp,Act.eval]) ?_
 walk_nrm
 refine co_value hZ hX3 (.bool true) rfl rfl (by decide) (fun _=>by simp[go_sem,execOp,Act.eval]) (fun _=>by simp[go_sem,execOp,Act.eval]) ?_
 walk_nrm
 refine co_call2 hZ hX3 rfl rfl (by decide) rfl Try.func11 (by kernel_rfl) (by kernel_rfl) (vals:=#[]) (by simp[Act.eval]) ?_
 refine awake_co hZ L3 _ _ fun e X9 v9 hq9=> ?_
 obtain⟨rfl,⟨g9,rfl,L9⟩,c9⟩:=hq9
 have hX9:=L9.ok.fx κL_ok
 rw[Frame.finish_at]
 walk_nrm
 refine co_value hZ hX9 (.bool true) rfl rfl (by decide) (fun _=>by simp[go_sem,execOp,Act.eval]) (fun _=>by simp[go_sem,execOp,Act.eval]) ?_
 walk_nrm
 refine co_value hZ hX9 (.bool true) rfl rfl (by decide) (fun _=>by simp[go_sem,execOp,Act.eval]) (fun _=>by simp[go_sem,execOp,Act.eval]) ?_
 walk_nrm
 refine co_region_end hZ hX9 ?_
 refine co_ret hZ hX9 ?_
 exact fin_leave hF L9 (KP.still c9).out rfl rfl Try.func3 (fun w=>by simp[results,Try.results3,go_sem]) (fun w=>by simp[results,Try.results3,go_sem]) (by kernel_rfl)
set_option maxRecDepth 100000 in
set_option maxHeartbeats 8000000 in
theorem over_loop {Z:Goal} {v:World} {D:Wd} {B s:Nat} {st:Nat} (hZ:Z.Ok Try.prog) (hF:Fin Z v) (hD:Wd.Ok D) (hkp:∀x F w,D.mem x F w→Kp v.heap.size v w) (hst:st<256):
 ∀(m i:Nat),i+m=st%100→∀{g:Gh} {bs:List Nat} {S:SS} {x:RW} {M:Nat→Prop} {w:World},Liv D B g s bs S x M w→S.closed=false→FI S→
 ∀(j0 j2 j3 j6 j8 j9 j10 j11 j12 j13 j14 j15 j16 j17 j18 j19 j20 j21 j22 j23 j24 j25 j26 j27 j28 j29 j30 j31 j32 j33 j34 j35 j36 j37 j38 j39 j40 j41 j42 j43 j44 j45 j46 j47 j48 j49 j50 j51 j52 j53 j54 j55 j56 j57 j58 j59 j60 j61 j62 j63 j64 j65 j66 j67 j68 j69 j70 j71 j72 j73 j74 j75 j76 j77:Value),Co Try.prog Z 0 (g.fx Try.prog κL 0) (G ((Go.Conc.base 3).at ⟨#[j0,.int .u8 (st:Int),j2,j3,.bool false,.pointer (some ⟨s,0,none⟩),j6,.int .i64 (i:Int),j8,j9,j10,j11,j12,j13,j14,j15,j16,j17,j18,j19,j20,j21,j22,j23,j24,j25,j26,j27,j28,j29,j30,j31,j32,j33,j34,j35,j36,j37,j38,j39,j40,j41,j42,j43,j44,j45,j46,j47,j48,j49,j50,j51,j52,j53,j54,j55,j56,j57,j58,j59,j60,j61,j62,j63,j64,j65,j66,j67,j68,j69,j70,j71,j72,j73,j74,j75,j76,j77],[]⟩ [.code lb3,.inLoop lb3,.inBlock 0,.code (sndC rest3)]) []) w:=by
 intro m
 induction m with
 |zero=>
  intro i hi g bs S x M w L hop hfi j0 j2 j3 j6 j8 j9 j10 j11 j12 j13 j14 j15 j16 j17 j18 j19 j20 j21 j22 j23 j24 j25 j26 j27 j28 j29 j30 j31 j32 j33 j34 j35 j36 j37 j38 j39 j40 j41 j42 j43 j44 j45 j46 j47 j48 j49 j50 j51 j52 j53 j54 j55 j56 j57 j58 j59 j60 j61 j62 j63 j64 j65 j66 j67 j68 j69 j70 j71 j72 j73 j74 j75 j76 j77
  have hX:=L.ok
  have hend:=Hd.mk (over_end hZ hF hD hkp hop L)
  have hN:((st:Int)%100)=(i:Int):=by omega
  have h100:(st%100:Nat)=i:=by omega
  simp only[lb3,rest3,body3,Try.f3,Option.getD_some,fstC,sndC,inC] at hend⊢
  refine co_seq hZ hX ?_
  refine co_seq hZ hX ?_
  refine co_code hZ hX TT (by decide) (by kernel_rfl) (by kernel_rfl) fun K hK u hu=> ?_
  go_wp2_with fail
  refine hK.out _ _ (co_same hu ?_)
  clear hK K hu u
  refine co_cond (t:=false) hZ hX (by simp[Act.eval]<;>omega) ?_
  simp only[Bool.false_eq_true,↓reduceIte]
  refine co_exit hZ hX rfl ?_
  exact hend.out _ _ _ _ _ _ _ _ _ _ _ _ _ _ _ _ _ _ _ _ _ _ _ _ _ _ _ _ _ _ _ _ _ _ _ _ _ _ _ _ _ _ _ _ _ _ _ _ _ _ _ _ _ _ _ _ _ _ _ _ _ _ _ _ _ _ _ _ _ _ _ _ _ _ _ _
 |succ m ih=>
  intro i hi g bs S x M w L hop hfi j0 j2 j3 j6 j8 j9 j10 j11 j12 j13 j14 j15 j16 j17 j18 j19 j20 j21 j22 j23 j24 j25 j26 j27 j28 j29 j30 j31 j32 j33 j34 j35 j36 j37 j38 j39 j40 j41 j42 j43 j44 j45 j46 j47 j48 j49 j50 j51 j52 j53 j54 j55 j56 j57 j58 j59 j60 j61 j62 j63 j64 j65 j66 j67 j68 j69 j70 j71 j72 j73 j74 j75 j76 j77
  have hX:=L.ok
  have IH:=Hd.mk ih
  clear ih
  have hlt:(i:Int)<(st:Int)%100:=by omega
  simp only[lb3,rest3,body3,Try.f3,Option.getD_some,fstC,sndC,inC] at IH⊢
  refine co_seq hZ hX ?_
  refine co_seq hZ hX ?_
  refine co_code hZ hX TT (by decide) (by kernel_rfl) (by kernel_rfl) fun K hK u hu=> ?_
  go_wp2_with fail
  refine hK.out _ _ (co_same hu ?_)
  clear hK K hu u
  refine co_cond (t:=true) hZ hX (by simp[Act.eval]<;>omega) ?_
  simp only[↓reduceIte]
  refine co_skip hZ hX ?_
  refine co_seq hZ hX ?_
  refine co_block hZ hX ?_
  refine co_seq hZ hX ?_
  refine c_region (n:=0) (J:=fun _ a=>Co Try.prog Z 0 (g.fx Try.prog κL 0) a w) (Co.calmly hZ hX) [0,1] rfl ?_
  refine co_value hZ hX (.pointer (some ⟨s,0,none⟩)) rfl rfl (by decide) (fun _=>by simp[go_sem,execOp,Act.eval]) (fun _=>by simp[go_sem,execOp,Act.eval]) ?_
  walk_nrm
  refine co_call2 hZ hX rfl rfl (by decide) rfl Try.func12 (by kernel_rfl) (by kernel_rfl) (vals:=#[.pointer (some ⟨s,0,none⟩),.int .i64 1]) (by simp[Act.eval]) ?_
  refine Fair_co hD hZ L.sch hop (by decide) _ _ fun e X1 v1 hq=> ?_
  obtain⟨rfl,hA⟩:=hq
  have hop1:(FairS D 1 S x).2.1.closed=false:=by
   rw[FairS_closed];exact hop
  have hfi1:=hfi.fair (D:=D) (x:=x)
  obtain⟨g1,bs1,M1,rfl,L1,_,_⟩:=hA.open hD
  have hX1:=L1.ok
  rw[Frame.finish_at]
  walk_nrm
  generalize(FairS D 1 S x).1.1=r1
  generalize(FairS D 1 S x).1.2=r2
  generalize(FairS D 1 S x).2.1=S1 at hop1 hfi1 L1
  generalize(FairS D 1 S x).2.2=x1 at L1
  clear hA L hop hfi
  refine co_region_end hZ hX1 ?_
  refine co_codeR hZ hX1 TT rfl (by kernel_rfl) (by kernel_rfl) fun K hK u hu=> ?_
  have C0:=same_chg (F:=fun _=>False) hu
  obtain⟨tv,uv,PP⟩:=L1.pl hD C0
  have hT:=Lib.hid (fun(W:World) (hb:Below u.heap.size u W) (n:Int) (hn:Bd n)=>Task_any (PP.up hb).sm n hn)
  have hA:=Lib.hid (fun(W:World) (hb:Below u.heap.size u W) (n:Int) (hn:Bd n)=>Age_any (PP.up hb).sm n hn)
  have hrl:S1.rs.length≤200:=PP.sm.ok.few
  have hage:=Lib.hid (fun(r:Ru) (hr:r∈S1.rs)=>hfi1.age hr)
  have C0:=Hd.mk C0
  clear hu PP
  suffices hM:∀w,Below u.heap.size u w→∀(j0 j2 j3 j6 j8 j9 j10 j11 j12 j13 j14 j15 j16 j17 j18 j19 j20 j21 j22 j23 j24 j25 j26 j27 j28 j29 j30 j31 j32 j33 j34 j35 j36 j37 j38 j39 j40 j41 j42 j43 j44 j45 j46 j47 j48 j49 j50 j51 j52 j53 j54 j55 j56 j57 j58 j59 j60 j61 j62 j63 j64 j65 j66 j67 j68 j69 j70 j71 j72 j73 j74 j75 j76 j77:Value),K #[j0,.int .u8 (st:Int),j2,j3,.bool false,.pointer (some ⟨s,0,none⟩),j6,.int .i64 (i:Int),j8,j9,j10,j11,j12,j13,j14,j15,j16,j17,j18,j19,j20,j21,j22,j23,j24,j25,j26,j27,j28,j29,j30,j31,j32,j33,j34,j35,j36,j37,j38,j39,j40,j41,j42,j43,j44,j45,j46,j47,j48,j49,j50,j51,j52,j53,j54,j55,j56,j57,j58,j59,j60,j61,j62,j63,j64,j65,j66,j67,j68,j69,j70,j71,j72,j73,j74,j75,j76,j77] w by
   have HM:=Hd.mk hM
   clear hK hM
   go_wp2_with fail
   go_loopw [8,9] (fun al i wr=> ∃k:Nat,k≤200∧al=.int .i64 (min k S1.rs.length:Nat)∧i=.int .i64 ((k:Int)+1)∧Hid (Below u.heap.size u wr)) (fun _ i _=>201-(intOf i).toNat)
   case atStart=>exact⟨0,by omega,by simp,rfl,Below.refl _ _⟩
   case round=>
    obtain⟨k,hk,rfl,rfl,hb⟩:=hrel
    by_cases hlt:k<200
    ·have R:=hT.out _ hb.out ((k:Int)+1) (by unfold Bd;omega)
     generalize taskS S1 ((k:Int)+1)=tw at R
     obtain⟨⟨y1,y2,y3,y4,y5,y6,y7⟩,⟨z1,z2,z3⟩⟩:=tw
     simp only[Tk.cells,Wa.cells] at R
     by_cases hkl:k<S1.rs.length
     ·have hf:findS S1 ((k:Int)+1)=0:=by unfold findS;rw[hop1,if_neg (by decide),if_pos (by omega)]
      rw[hf] at R
      have R:=Lib.hid R
      have hm:min k S1.rs.length=k:=by omega
      have hm2:min (k+1) S1.rs.length=k+1:=by omega
      rw[hm]
      clear hT hA hage
      go_wp2_with (go_at_call 13;refine R.out.mono ?_;rintro e w2 ⟨rfl,hb2⟩;have HB:=Hd.mk hb2;clear hb2)
      go_roundw
      case rel=>exact⟨k+1,by omega,by rw[hm2];go_num,by go_num,bal (bal (hb.out.trans (HB.out.mono hb.out.size)))⟩
      case measure=>simp[intOf];omega
     ·have hf:findS S1 ((k:Int)+1)=4:=by unfold findS;rw[hop1,if_neg (by decide),if_neg (by omega)]
      rw[hf] at R
      have R:=Lib.hid R
      have hm:min k S1.rs.length=S1.rs.length:=by omega
      have hm2:min (k+1) S1.rs.length=S1.rs.length:=by omega
      rw[hm]
      clear hT hA hage
      go_wp2_with (go_at_call 13;refine R.out.mono ?_;rintro e w2 ⟨rfl,hb2⟩;have HB:=Hd.mk hb2;clear hb2)
      go_roundw
      case rel=>exact⟨k+1,by omega,by rw[hm2],by go_num,bal (bal (hb.out.trans (HB.out.mono hb.out.size)))⟩
      case measure=>simp[intOf];omega
    ·have hke:k=200:=by omega
     subst hke
     have hm:min 200 S1.rs.length=S1.rs.length:=by omega
     rw[hm,show((200:Nat):Int)+1=201 from rfl]
     clear hlt hT
     go_wp2_with fail
     rename World=>x2
     have HB2:=Hd.mk hb.out
     go_loopw [4,13] (fun q i wr=> ∃k:Nat,k≤S1.rs.length∧q=.bool false∧i=.int .i64 ((k:Int)+1)∧Hid (Below u.heap.size u wr)) (fun _ i _=>201-(intOf i).toNat)
     case atStart=>exact⟨0,by omega,rfl,rfl,hb⟩
     case round=>
      obtain⟨k,hk,rfl,rfl,hb⟩:=hrel
      by_cases hlt:k<S1.rs.length
      ·have R:=hA.out _ hb.out ((k:Int)+1) (by unfold Bd;omega)
       have hf:findS S1 ((k:Int)+1)=0:=by unfold findS;rw[hop1,if_neg (by decide),if_pos (by omega)]
       have ha:ageS S1 ((k:Int)+1)=S1.rs[k].age:=by unfold ageS;rw[if_pos hf,show((k:Int)+1-1).toNat=k by omega,List.getElem?_eq_getElem hlt];rfl
       rw[ha,hf] at R
       have hag:=hage.out S1.rs[k] (List.getElem_mem _)
       generalize S1.rs[k].age=ag at R hag
       have R:=Lib.hid R
       clear hA hage
       go_wp2_with (go_at_call 14;refine R.out.mono ?_;rintro e w2 ⟨rfl,hb2⟩;have HB:=Hd.mk hb2;clear hb2)
       go_roundw
       case rel=>exact⟨k+1,by omega,rfl,by go_num,hb.out.trans (HB.out.mono hb.out.size)⟩
       case measure=>simp[intOf];omega
      ·have hke:k=S1.rs.length:=by omega
       subst hke
       clear hlt hA hage
       go_wp2_with fail
       exact HM.out _ hb.out _ _ _ _ _ _ _ _ _ _ _ _ _ _ _ _ _ _ _ _ _ _ _ _ _ _ _ _ _ _ _ _ _ _ _ _ _ _ _ _ _ _ _ _ _ _ _ _ _ _ _ _ _ _ _ _ _ _ _ _ _ _ _ _ _ _ _ _ _ _ _ _ _ _
  intro w2 hbw j0 j2 j3 j6 j8 j9 j10 j11 j12 j13 j14 j15 j16 j17 j18 j19 j20 j21 j22 j23 j24 j25 j26 j27 j28 j29 j30 j31 j32 j33 j34 j35 j36 j37 j38 j39 j40 j41 j42 j43 j44 j45 j46 j47 j48 j49 j50 j51 j52 j53 j54 j55 j56 j57 j58 j59 j60 j61 j62 j63 j64 j65 j66 j67 j68 j69 j70 j71 j72 j73 j74 j75 j76 j77
  have C1':=C0.out.trans (Chg.of_below (F:=fun _=>False) hbw) (fun _ _=>id)
  refine hK.out _ _ ?_
  have L1:=L1.still hD C1'
  clear hK K hT hA hage C0 C1' hbw
  refine co_inBlock hZ hX1 ?_
  refine co_code hZ hX1 TT (by decide) (by kernel_rfl) (by kernel_rfl) fun K hK u hu=> ?_
  go_wp2_with fail
  refine hK.out _ _ (co_same hu ?_)
  clear hK K hu u
  refine co_inLoop hZ hX1 ?_
  exact IH.out (i+1) (by omega) L1 hop1 hfi1 _ _ _ _ _ _ _ _ _ _ _ _ _ _ _ _ _ _ _ _ _ _ _ _ _ _ _ _ _ _ _ _ _ _ _ _ _ _ _ _ _ _ _ _ _ _ _ _ _ _ _ _ _ _ _ _ _ _ _ _ _ _ _ _ _ _ _ _ _ _ _ _ _ _
set_option maxRecDepth 100000 in
set_option maxHeartbeats 8000000 in
theorem over_co {v:World} {p:Pn} {kv fv:Value} {n:Int} (H:LawP v p kv fv (.slice none 0 0) []) (hn:0≤n∧n<256):LawCo 3 #[.agg #[kv,fv,.int .i64 p.most],.int .u8 n] v:=by
 obtain⟨st,rfl⟩:∃st:Nat,n=(st:Int):=⟨n.toNat,by omega⟩
 intro Z g hZ L hF
 have hX:=L.ok.fx κL_ok
 obtain⟨kA,kc,rfl,k1,k2,_⟩:=H.pn.ks.open
 obtain⟨fA,fc,rfl,f1,f2,_⟩:=H.pn.fs.open
 have HH:=Hd.mk H
 clear H
 rw[enter_at _ Try.func3 (by kernel_rfl:Try.f3.body=some body3),Try.ntmps3]
 walk_nrm
 simp only[body3,Try.f3,Option.getD_some]
 refine co_seq hZ hX ?_
 refine co_code hZ hX TT (by decide) (by kernel_rfl) (by kernel_rfl) fun K hK u hu=> ?_
 have hz0:u.heap.size=v.heap.size:=by rw[hu.heap]
 go_wp2_with fail
 refine hK.out _ _ (co_same (hu.alloc _) ?_)
 clear hK K hu hz0 u
 refine at_world (fun y=>Chg (fun _=>False) v y∧Cells y v.heap.size [.slice kA p.ks.length kc,.slice fA p.fs.length fc,.int .i64 p.most]) ⟨Chg.alloc _ _ _,Cells.new v [.slice kA p.ks.length kc,.slice fA p.fs.length fc,.int .i64 p.most] 25⟩ fun x1 hx1=> ?_
 have C1:=Hd.mk hx1.1
 have BX:=Hd.mk hx1.2
 clear hx1
 refine co_seq hZ hX ?_
 refine c_region (n:=0) (J:=fun _ a=>Co Try.prog Z 0 (g.fx Try.prog κL 0) a x1) (Co.calmly hZ hX) [0,1,2,3,4,5,6] rfl ?_
 refine co_op hZ hX TT.toTable (by decide) (R:=fun y u=>y=.agg #[.slice kA p.ks.length kc,.slice fA p.fs.length fc,.int .i64 p.most]∧Same u x1) rfl rfl (by kernel_rfl) (fun u hu=>⟨.agg #[.slice kA p.ks.length kc,.slice fA p.fs.length fc,.int .i64 p.most],u, ?_,rfl,hu⟩) (fun y u hh=> ?_)
 ·have d0:u.cell? ⟨v.heap.size,0,none⟩=some (.slice kA p.ks.length kc):=(by unfold World.cell?;rw[hu.heap];exact BX.out.c 0 _ rfl)
  have d1:u.cell? ⟨v.heap.size,1,none⟩=some (.slice fA p.fs.length fc):=(by unfold World.cell?;rw[hu.heap];exact BX.out.c 1 _ rfl)
  have d2:u.cell? ⟨v.heap.size,2,none⟩=some (.int .i64 p.most):=(by unfold World.cell?;rw[hu.heap];exact BX.out.c 2 _ rfl)
  simp[go_sem,execOp,Act.eval,d0,d1,d2]
 obtain⟨rfl,hu⟩:=hh
 refine co_same hu ?_
 clear hu u
 walk_nrm
 refine co_call2 hZ hX rfl rfl (by decide) rfl Try.func10 (by kernel_rfl) (by kernel_rfl) (vals:=#[.agg #[.slice kA p.ks.length kc,.slice fA p.fs.length fc,.int .i64 p.most],.slice none 0 0]) (by simp[Act.eval]) ?_
 refine HH.out.played hZ L C1.out _ _ fun e X2 v2 hq=> ?_
 cases hpb:plBad p [] with
 |true=>
  obtain⟨rfl,⟨g2,rfl,L2⟩,c2⟩:=hq.bad hpb
  have hX2:=L2.ok.fx κL_ok
  have C2:=C1.out.trans c2 (fun _ _=>id)
  rw[Frame.finish_at]
  walk_nrm
  refine co_value hZ hX2 (.tuple #[.pointer none,.pointer none]) rfl rfl (by decide) (fun _=>by simp[go_sem,execOp,Act.eval]) (fun _=>by simp[go_sem,execOp,Act.eval]) ?_
  walk_nrm
  refine co_value hZ hX2 (.pointer none) rfl rfl (by decide) (fun _=>by simp[go_sem,execOp,Act.eval]) (fun _=>by simp[go_sem,execOp,Act.eval]) ?_
  walk_nrm
  refine co_value hZ hX2 (.pointer none) rfl rfl (by decide) (fun _=>by simp[go_sem,execOp,Act.eval]) (fun _=>by simp[go_sem,execOp,Act.eval]) ?_
  walk_nrm
  refine co_value hZ hX2 (.pointer none) rfl rfl (by decide) (fun _=>by simp[go_sem,execOp,Act.eval]) (fun _=>by simp[go_sem,execOp,Act.eval]) ?_
  walk_nrm
  refine co_value hZ hX2 (.pointer none) rfl rfl (by decide) (fun _=>by simp[go_sem,execOp,Act.eval]) (fun _=>by simp[go_sem,execOp,Act.eval]) ?_
  walk_nrm
  refine co_region_end hZ hX2 ?_
  refine co_seq hZ hX2 ?_
  refine co_seq hZ hX2 ?_
  refine co_code hZ hX2 TT (by decide) (by kernel_rfl) (by kernel_rfl) fun K hK u hu=> ?_
  go_wp2_with fail
  refine hK.out _ _ (co_same hu ?_)
  clear hK K hu u
  refine co_cond (t:=true) hZ hX2 (by simp[Act.eval]) ?_
  simp only[↓reduceIte]
  refine co_seq hZ hX2 ?_
  refine c_region (n:=0) (J:=fun _ a=>Co Try.prog Z 0 (g2.fx Try.prog κL 0) a v2) (Co.calmly hZ hX2) [0,1] rfl ?_
  refine co_call2 hZ hX2 rfl rfl (by decide) rfl Try.func11 (by kernel_rfl) (by kernel_rfl) (vals:=#[]) (by simp[Act.eval]) ?_
  refine awake_co hZ L2 _ _ fun e X9 v9 hq9=> ?_
  obtain⟨rfl,⟨g9,rfl,L9⟩,c9⟩:=hq9
  have hX9:=L9.ok.fx κL_ok
  rw[Frame.finish_at]
  walk_nrm
  refine co_value hZ hX9 (.bool true) rfl rfl (by decide) (fun _=>by simp[go_sem,execOp,Act.eval]) (fun _=>by simp[go_sem,execOp,Act.eval]) ?_
  walk_nrm
  refine co_region_end hZ hX9 ?_
  refine co_ret hZ hX9 ?_
  exact fin_leave hF L9 (C2.trans c9 (fun _ _=>id)) rfl rfl Try.func3 (fun w=>by simp[results,Try.results3,go_sem]) (fun w=>by simp[results,Try.results3,go_sem]) (by kernel_rfl)
 |false=>
  obtain⟨s,b,B,g2,bs2,M2,rfl,rfl,hD,L2,hop,c2,_⟩:=hq.good HH.out hpb
  have hX2:=L2.ok
  rw[Frame.finish_at]
  walk_nrm
  refine co_value hZ hX2 (.tuple #[.pointer (some ⟨s,0,none⟩),.pointer (some ⟨b,0,none⟩)]) rfl rfl (by decide) (fun _=>by simp[go_sem,execOp,Act.eval]) (fun _=>by simp[go_sem,execOp,Act.eval]) ?_
  walk_nrm
  refine co_value hZ hX2 (.pointer (some ⟨s,0,none⟩)) rfl rfl (by decide) (fun _=>by simp[go_sem,execOp,Act.eval]) (fun _=>by simp[go_sem,execOp,Act.eval]) ?_
  walk_nrm
  refine co_value hZ hX2 (.pointer (some ⟨b,0,none⟩)) rfl rfl (by decide) (fun _=>by simp[go_sem,execOp,Act.eval]) (fun _=>by simp[go_sem,execOp,Act.eval]) ?_
  walk_nrm
  refine co_value hZ hX2 (.pointer (some ⟨s,0,none⟩)) rfl rfl (by decide) (fun _=>by simp[go_sem,execOp,Act.eval]) (fun _=>by simp[go_sem,execOp,Act.eval]) ?_
  walk_nrm
  refine co_value hZ hX2 (.pointer (some ⟨b,0,none⟩)) rfl rfl (by decide) (fun _=>by simp[go_sem,execOp,Act.eval]) (fun _=>by simp[go_sem,execOp,Act.eval]) ?_
  walk_nrm
  refine co_region_end hZ hX2 ?_
  refine co_seq hZ hX2 ?_
  refine co_seq hZ hX2 ?_
  refine co_code hZ hX2 TT (by decide) (by kernel_rfl) (by kernel_rfl) fun K hK u hu=> ?_
  go_wp2_with fail
  refine hK.out _ _ (co_same hu ?_)
  clear hK K hu u
  refine co_cond (t:=false) hZ hX2 (by simp[Act.eval]) ?_
  simp only[Bool.false_eq_true,↓reduceIte]
  refine co_skip hZ hX2 ?_
  clear hq c2 C1 BX
  clear hpb HH
  have hfi:FI (plS (DW v b (.slice kA p.ks.length kc) p.ks) p []):=FI.beg (FI0 _) _
  generalize plS (DW v b (.slice kA p.ks.length kc) p.ks) p []=S at L2 hop hfi
  generalize plX (DW v b (.slice kA p.ks.length kc) p.ks) p []=x at L2
  have hkp:∀x F w,(DW v b (.slice kA p.ks.length kc) p.ks).mem x F w→Kp v.heap.size v w:=fun _ _ _ h=>DW_kp h
  generalize DW v b (.slice kA p.ks.length kc) p.ks=D at hD L2 hkp
  refine co_seq hZ hX2 ?_
  refine co_seq hZ hX2 ?_
  refine co_code hZ hX2 TT (by decide) (by kernel_rfl) (by kernel_rfl) fun K hK u hu=> ?_
  go_wp2_with fail
  refine hK.out _ _ (co_same hu ?_)
  clear hK K hu u
  refine co_block hZ hX2 ?_
  refine co_loop hZ hX2 ?_
  have h:=over_loop (st:=st) hZ hF hD hkp (by omega) (st%100) 0 (by omega) L2 hop hfi
  simp only[lb3,rest3,body3,Try.f3,Option.getD_some,fstC,sndC,inC] at h
  exact h _ _ _ _ _ _ _ _ _ _ _ _ _ _ _ _ _ _ _ _ _ _ _ _ _ _ _ _ _ _ _ _ _ _ _ _ _ _ _ _ _ _ _ _ _ _ _ _ _ _ _ _ _ _ _ _ _ _ _ _ _ _ _ _ _ _ _ _ _ _ _ _ _ _
end Co
end Go.Proofs.Ytlngbdggehghgaa

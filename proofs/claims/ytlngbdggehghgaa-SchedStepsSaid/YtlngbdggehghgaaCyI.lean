/-
  The loop of picks of the laws' played, in company. Conditions: as each theorem says.
-/
import Derived.Test.YtlngbdggehghgaaCyD
namespace Go.Proofs.Ytlngbdggehghgaa
set_option linter.unusedSimpArgs false
set_option linter.unusedVariables false
namespace Co
open Go.Conc Go.RowKit
def pksS (D:Wd):List Int→SS→RW→SS×RW
 |[],S,x=>(S,x)
 |k::ks,S,x=>pksS D ks (pickS D S x k).1 (pickS D S x k).2
theorem pksS_closed (D:Wd) (ks:List Int):∀(S:SS) (x:RW),(pksS D ks S x).1.closed=S.closed:=by
 induction ks with
 |nil=>exact fun _ _=>rfl
 |cons k ks ih=>exact fun S x=>(ih _ _).trans (pickS_closed _ _ _ _)
noncomputable def bodyPl:Code:=Try.f10.body.getD .skip
noncomputable def restPl:Code:=sndC (sndC (sndC (sndC (sndC bodyPl))))
noncomputable def lbPl:Code:=inC (inC (sndC (fstC restPl)))
set_option maxRecDepth 100000 in
set_option maxHeartbeats 8000000 in
theorem picks_loop {Z:Goal} {D:Wd} {B s b:Nat} {lv:Value} {pk:List Int} {c:Frame} {cs:List Frame} (hD:Wd.Ok D) (hZ:Z.Ok Try.prog) (hpk:pk.length≤1000000) (hkb:∀k∈pk,Bd k) (hget:∀x F v,D.mem x F v→Sl intR v lv pk):
 ∀(m i:Nat),i+m=pk.length→∀{g:Gh} {bs:List Nat} {S:SS} {x:RW} {M:Nat→Prop} {v:World},Sch D B g s bs S x M v→S.closed=false→
 (∀X' v',Aft D B s bs (pksS D (pk.drop i) S x).1 (pksS D (pk.drop i) S x).2 M v X' v'→Co Try.prog Z 0 X' (G (c.finish (.tuple #[.pointer (some ⟨s,0,none⟩),.pointer (some ⟨b,0,none⟩)])) cs) v')→
 ∀(Js Jr Jf Jk J2 Ya Jx Jn Jw Jb Jt Jz Jd J3 J1 Yb J4 Ju Jq Jh Jv Jm Ye Jc Je Ji Jy Jl J7 Jp J9 Jo Jj Yc Jg J5 J8 J0 Ja Yd J6:Value),Co Try.prog Z 0 (g.fx Try.prog κL 0) (G ((Go.Conc.base 10).at ⟨#[Js,lv,Jr,Jf,.pointer none,.pointer none,.pointer (some ⟨b,0,none⟩),.pointer (some ⟨s,0,none⟩),Jk,.int .i64 (i:Int),J2,Ya,Jx,Jn,Jw,Jb,Jt,Jz,Jd,J3,J1,Yb,J4,Ju,Jq,Jh,Jv,Jm,Ye,Jc,Je,Ji,Jy,Jl,J7,Jp,J9,Jo,Jj,Yc,Jg,J5,J8,J0,Ja,Yd,J6],[]⟩ (.code lbPl:: .inLoop lbPl:: .inBlock 0:: .code (sndC restPl)::[])) (c::cs)) v:=by
 intro m
 induction m with
 |zero=>
  intro i hi g bs S x M v h hop hpost Js Jr Jf Jk J2 Ya Jx Jn Jw Jb Jt Jz Jd J3 J1 Yb J4 Ju Jq Jh Jv Jm Ye Jc Je Ji Jy Jl J7 Jp J9 Jo Jj Yc Jg J5 J8 J0 Ja Yd J6
  have hX:(g.fx Try.prog κL 0).Ok Try.prog 0:=by obtain⟨_,_,_,cr,_⟩:=h;exact cr.ok.fx κL_ok
  have hl:=(by obtain⟨_,_,F,_,_,hm,_⟩:=h;exact hget _ _ _ hm:Sl intR v lv pk)
  have hie:i=pk.length:=by omega
  subst hie
  rw[List.drop_length] at hpost
  have HP:=Hd.mk hpost
  have HS:=Hd.mk h
  clear hpost h
  obtain⟨lA,lc,rfl,hl1,hl2,_⟩:=hl.open
  clear hl
  simp only[lbPl,restPl,bodyPl,Try.f10,Option.getD_some,fstC,sndC,inC]
  refine co_seq hZ hX ?_
  refine co_seq hZ hX ?_
  refine co_code hZ hX TT (by decide) (by kernel_rfl) (by kernel_rfl) fun K hK u hu=> ?_
  go_wp2_with fail
  refine hK.out _ _ (co_same hu ?_)
  clear hK K hu u
  refine co_cond (t:=false) hZ hX (by simp[Act.eval]) ?_
  simp only[Bool.false_eq_true,↓reduceIte]
  refine co_exit hZ hX rfl ?_
  refine co_seq hZ hX ?_
  refine co_code hZ hX TT (by decide) (by kernel_rfl) (by kernel_rfl) fun K hK u hu=> ?_
  go_wp2_with fail
  refine hK.out _ _ (co_same hu ?_)
  clear hK K hu u
  refine co_ret hZ hX ?_
  refine c_leave (n:=0) (J:=fun _ a=>Co Try.prog Z 0 (g.fx Try.prog κL 0) a v) (Co.calmly hZ hX) (x:=.tuple #[.pointer (some ⟨s,0,none⟩),.pointer (some ⟨b,0,none⟩)]) rfl rfl Try.func10 (fun w=>by simp[results,Try.results10,go_sem]) (fun w=>by simp[results,Try.results10,go_sem]) ?_
  exact HP.out _ v (Aft.still hD HS.out (Chg.refl _ _))
 |succ m ih=>
  intro i hi g bs S x M v h hop hpost Js Jr Jf Jk J2 Ya Jx Jn Jw Jb Jt Jz Jd J3 J1 Yb J4 Ju Jq Jh Jv Jm Ye Jc Je Ji Jy Jl J7 Jp J9 Jo Jj Yc Jg J5 J8 J0 Ja Yd J6
  have hX:(g.fx Try.prog κL 0).Ok Try.prog 0:=by obtain⟨_,_,_,cr,_⟩:=h;exact cr.ok.fx κL_ok
  have hl:=(by obtain⟨_,_,F,_,_,hm,_⟩:=h;exact hget _ _ _ hm:Sl intR v lv pk)
  have hil:i<pk.length:=by omega
  have hdr:pk.drop i=pk[i]::pk.drop (i+1):=List.drop_eq_getElem_cons hil
  have hbd:=hkb _ (List.getElem_mem hil)
  rw[hdr] at hpost
  have HP:=Hd.mk hpost
  have HS:=Hd.mk h
  clear hpost h
  obtain⟨lA,lc,rfl,hl1,hl2,hl⟩:=hl.open
  obtain⟨bl,off,cc,rfl,hbl,hcc,hat⟩:=hl.at_ hil
  have hp:=hat 0 _ (by rw[show cc=_ from hcc.1];rfl)
  simp only[intR,Nat.mul_one,Nat.add_zero] at hp
  generalize pk[i]=kk at hp hcc HP hbd hdr
  clear hat hcc hl
  have IH:=Hd.mk ih
  clear ih
  simp only[lbPl,restPl,bodyPl,Try.f10,Option.getD_some,fstC,sndC,inC] at IH⊢
  refine co_seq hZ hX ?_
  refine co_seq hZ hX ?_
  refine co_code hZ hX TT (by decide) (by kernel_rfl) (by kernel_rfl) fun K hK u hu=> ?_
  go_wp2_with fail
  refine hK.out _ _ (co_same hu ?_)
  clear hK K hu u
  refine co_cond (t:=true) hZ hX (by simp[Act.eval]) ?_
  simp only[↓reduceIte]
  refine co_skip hZ hX ?_
  refine co_seq hZ hX ?_
  refine co_block hZ hX ?_
  refine c_region (n:=0) (J:=fun _ a=>Co Try.prog Z 0 (g.fx Try.prog κL 0) a v) (Co.calmly hZ hX) [0,1,2,3,4,5] rfl ?_
  refine co_value hZ hX (.pointer (some ⟨s,0,none⟩)) rfl rfl (by decide) (fun _=>by simp[go_sem,execOp,Act.eval]) (fun _=>by simp[go_sem,execOp,Act.eval]) ?_
  walk_nrm
  refine co_value hZ hX (.slice (some ⟨bl,off,none⟩) pk.length lc) rfl rfl (by decide) (fun _=>by simp[go_sem,execOp,Act.eval]) (fun _=>by simp[go_sem,execOp,Act.eval]) ?_
  walk_nrm
  refine co_value hZ hX (.int .i64 (i:Int)) rfl rfl (by decide) (fun _=>by simp[go_sem,execOp,Act.eval]) (fun _=>by simp[go_sem,execOp,Act.eval]) ?_
  walk_nrm
  refine co_op hZ hX TT.toTable (by decide) (R:=fun y u=>y=.pointer (some ⟨bl,off+i,none⟩)∧Same u v) rfl rfl (by kernel_rfl) (fun u hu=>⟨.pointer (some ⟨bl,off+i,none⟩),u, ?_,rfl,hu⟩) (fun y u hh=> ?_)
  ·simp[go_sem,execOp,Act.eval,hil]
  obtain⟨rfl,hu⟩:=hh
  refine co_same hu ?_
  clear hu u
  walk_nrm
  refine co_op hZ hX TT.toTable (by decide) (R:=fun y u=>y=.int .i64 kk∧Same u v) rfl rfl (by kernel_rfl) (fun u hu=>⟨.int .i64 kk,u, ?_,rfl,hu⟩) (fun y u hh=> ?_)
  ·have hp2:u.cell? ⟨bl,off+i,none⟩=some (.int .i64 kk):=by unfold World.cell?;rw[hu.heap];exact hp
   simp[go_sem,execOp,Act.eval,hp2]
  obtain⟨rfl,hu⟩:=hh
  refine co_same hu ?_
  clear hu u
  walk_nrm
  refine co_call2 hZ hX rfl rfl (by decide) rfl Try.func18 (by kernel_rfl) (by kernel_rfl) (vals:=#[.pointer (some ⟨s,0,none⟩),.int .i64 kk]) (by simp[Act.eval]) ?_
  refine Pick_co hD hZ HS.out hop hbd _ _ fun e X' v1 hq=> ?_
  obtain⟨rfl,g1,bs1,M1,rfl,hS1,hc1,hM1,hb1⟩:=hq
  have hX1:(g1.fx Try.prog κL 0).Ok Try.prog 0:=by obtain⟨_,_,_,cr,_⟩:=hS1;exact cr.ok.fx κL_ok
  rw[Frame.finish_at]
  walk_nrm
  generalize(if pickE D S x kk=0 then(pickI D S x kk:Int)+1 else 0)=pv
  refine co_region_end hZ hX1 ?_
  refine co_inBlock hZ hX1 ?_
  refine co_code hZ hX1 TT (by decide) (by kernel_rfl) (by kernel_rfl) fun K hK u hu=> ?_
  go_wp2_with fail
  refine hK.out _ _ (co_same hu ?_)
  clear hK K hu u
  refine co_inLoop hZ hX1 ?_
  exact IH.out (i+1) (by omega) hS1 (by rw[pickS_closed];exact hop) (fun X' v' hA=>HP.out X' v' (Aft.trans (S1:=S) (x1:=x) hc1 hM1 hb1 hA)) _ _ _ _ _ _ _ _ _ _ _ _ _ _ _ _ _ _ _ _ _ _ _ _ _ _ _ _ _ _ _ _ _ _ _ _ _ _ _ _ _
end Co
end Go.Proofs.Ytlngbdggehghgaa

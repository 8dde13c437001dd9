/-
  The law SchedSteps, in company. Conditions: as each theorem says.
-/
import Derived.Test.YtlngbdggehghgaaCzB
namespace Go.Proofs.Ytlngbdggehghgaa
set_option linter.unusedSimpArgs false
set_option linter.unusedVariables false
open Go.RowKit
namespace Co
open Go.Conc
theorem StA.setT {v2 y:World} {lg wv:Value} {g n c i:Nat} {z:Value} {Lt:List Tn} {T T':List Tk} {W:List Wa} (h:StA v2 y lg (.slice (some ⟨g,0,none⟩) n c) wv Lt T W) (hp:Own tkR 35 v2.heap.size (y.setCell ⟨g,i,none⟩ z) (.slice (some ⟨g,0,none⟩) n c) T'∧y.grownBy (y.setCell ⟨g,i,none⟩ z) (some g)):StA v2 (y.setCell ⟨g,i,none⟩ z) lg (.slice (some ⟨g,0,none⟩) n c) wv Lt T' W:=by
 have hg:v2.heap.size≤g:=(h.t.lt g rfl).1
 refine⟨h.kp.up (Chg.grown (F:=fun j=>j=g) hp.2 (fun j e=>(Option.some.inj e).symm)) (fun j e=>by subst e;exact hg),h.lg.kept hp.2 (fun j hj e=> ?_) (fun _ _ h=>h),hp.1,h.w.kept hp.2 (fun j hj e=> ?_) (fun _ _ h=>h)⟩
 ·cases e
  exact h.lg.apart h.t (by decide) _ hj rfl
 ·cases e
  exact h.w.apart h.t (by decide) _ hj rfl
set_option maxRecDepth 100000 in
set_option maxHeartbeats 8000000 in
theorem steps_co {v:World} {p:Pn} {kv fv pv:Value} {pk:List Int} (H:LawP v p kv fv pv pk):LawCo 6 #[.agg #[kv,fv,.int .i64 p.most],pv] v:=by
 intro Z g hZ L hF
 have hX:=L.ok.fx κL_ok
 obtain⟨kA,kc,rfl,k1,k2,_⟩:=H.pn.ks.open
 obtain⟨fA,fc,rfl,f1,f2,_⟩:=H.pn.fs.open
 have HH:=Hd.mk H
 clear H
 rw[enter_at _ Try.func6 (by kernel_rfl:Try.f6.body=some body6),Try.ntmps6]
 walk_nrm
 simp only[body6,Try.f6,Option.getD_some]
 refine co_seq hZ hX ?_
 refine co_code hZ hX TT (by decide) (by kernel_rfl) (by kernel_rfl) fun K hK u hu=> ?_
 have hz0:u.heap.size=v.heap.size:=by rw[hu.heap]
 go_wp2_with fail
 refine hK.out _ _ (co_same (hu.alloc _) ?_)
 clear hK K hu hz0 u
 refine at_world (fun y=>Chg (fun _=>False) v y∧Cells y v.heap.size [.slice kA p.ks.length kc,.slice fA p.fs.length fc,.int .i64 p.most]) ⟨Chg.alloc _ _ _,Cells.new v [.slice kA p.ks.length kc,.slice fA p.fs.length fc,.int .i64 p.most] 25⟩ fun x1 hx1=> ?_
 have C1:=Hd.mk hx1.1
 have BX:=Hd.mk hx1.2
 clear hx1
 refine co_seq hZ hX ?_
 refine c_region (n:=0) (J:=fun _ a=>Co Try.prog Z 0 (g.fx Try.prog κL 0) a x1) (Co.calmly hZ hX) [0,1,2,3,4,5,6,7] rfl ?_
 refine co_op hZ hX TT.toTable (by decide) (R:=fun y u=>y=.agg #[.slice kA p.ks.length kc,.slice fA p.fs.length fc,.int .i64 p.most]∧Same u x1) rfl rfl (by kernel_rfl) (fun u hu=>⟨.agg #[.slice kA p.ks.length kc,.slice fA p.fs.length fc,.int .i64 p.most],u, ?_,rfl,hu⟩) (fun y u hh=> ?_)
 ·have d0:u.cell? ⟨v.heap.size,0,none⟩=some (.slice kA p.ks.length kc):=(by unfold World.cell?;rw[hu.heap];exact BX.out.c 0 _ rfl)
  have d1:u.cell? ⟨v.heap.size,1,none⟩=some (.slice fA p.fs.length fc):=(by unfold World.cell?;rw[hu.heap];exact BX.out.c 1 _ rfl)
  have d2:u.cell? ⟨v.heap.size,2,none⟩=some (.int .i64 p.most):=(by unfold World.cell?;rw[hu.heap];exact BX.out.c 2 _ rfl)
  simp[go_sem,execOp,Act.eval,d0,d1,d2]
 obtain⟨rfl,hu⟩:=hh
 refine co_same hu ?_
 clear hu u
 walk_nrm
 refine co_value hZ hX (pv) rfl rfl (by decide) (fun _=>by simp[go_sem,execOp,Act.eval]) (fun _=>by simp[go_sem,execOp,Act.eval]) ?_
 walk_nrm
 refine co_call2 hZ hX rfl rfl (by decide) rfl Try.func10 (by kernel_rfl) (by kernel_rfl) (vals:=#[.agg #[.slice kA p.ks.length kc,.slice fA p.fs.length fc,.int .i64 p.most],pv]) (by simp[Act.eval]) ?_
 refine HH.out.played hZ L C1.out _ _ fun e X2 v2 hq=> ?_
 cases hpb:plBad p pk with
 |true=>
  obtain⟨rfl,⟨g2,rfl,L2⟩,c2⟩:=hq.bad hpb
  have hX2:=L2.ok.fx κL_ok
  have C2:=C1.out.trans c2 (fun _ _=>id)
  rw[Frame.finish_at]
  walk_nrm
  refine co_value hZ hX2 (.tuple #[.pointer none,.pointer none]) rfl rfl (by decide) (fun _=>by simp[go_sem,execOp,Act.eval]) (fun _=>by simp[go_sem,execOp,Act.eval]) ?_
  walk_nrm
  refine co_value hZ hX2 (.pointer none) rfl rfl (by decide) (fun _=>by simp[go_sem,execOp,Act.eval]) (fun _=>by simp[go_sem,execOp,Act.eval]) ?_
  walk_nrm
  refine co_value hZ hX2 (.pointer none) rfl rfl (by decide) (fun _=>by simp[go_sem,execOp,Act.eval]) (fun _=>by simp[go_sem,execOp,Act.eval]) ?_
  walk_nrm
  refine co_value hZ hX2 (.pointer none) rfl rfl (by decide) (fun _=>by simp[go_sem,execOp,Act.eval]) (fun _=>by simp[go_sem,execOp,Act.eval]) ?_
  walk_nrm
  refine co_value hZ hX2 (.pointer none) rfl rfl (by decide) (fun _=>by simp[go_sem,execOp,Act.eval]) (fun _=>by simp[go_sem,execOp,Act.eval]) ?_
  walk_nrm
  refine co_region_end hZ hX2 ?_
  refine co_seq hZ hX2 ?_
  refine co_seq hZ hX2 ?_
  refine co_code hZ hX2 TT (by decide) (by kernel_rfl) (by kernel_rfl) fun K hK u hu=> ?_
  go_wp2_with fail
  refine hK.out _ _ (co_same hu ?_)
  clear hK K hu u
  refine co_cond (t:=true) hZ hX2 (by simp[Act.eval]) ?_
  simp only[↓reduceIte]
  refine co_seq hZ hX2 ?_
  refine c_region (n:=0) (J:=fun _ a=>Co Try.prog Z 0 (g2.fx Try.prog κL 0) a v2) (Co.calmly hZ hX2) [0,1] rfl ?_
  refine co_call2 hZ hX2 rfl rfl (by decide) rfl Try.func11 (by kernel_rfl) (by kernel_rfl) (vals:=#[]) (by simp[Act.eval]) ?_
  refine awake_co hZ L2 _ _ fun e X9 v9 hq9=> ?_
  obtain⟨rfl,⟨g9,rfl,L9⟩,c9⟩:=hq9
  have hX9:=L9.ok.fx κL_ok
  rw[Frame.finish_at]
  walk_nrm
  refine co_value hZ hX9 (.bool true) rfl rfl (by decide) (fun _=>by simp[go_sem,execOp,Act.eval]) (fun _=>by simp[go_sem,execOp,Act.eval]) ?_
  walk_nrm
  refine co_region_end hZ hX9 ?_
  refine co_ret hZ hX9 ?_
  exact fin_leave hF L9 (C2.trans c9 (fun _ _=>id)) rfl rfl Try.func6 (fun w=>by simp[results,Try.results6,go_sem]) (fun w=>by simp[results,Try.results6,go_sem]) (by kernel_rfl)
 |false=>
  obtain⟨s,b,B,g2,bs2,M2,rfl,rfl,hD,L2,hop,c2,_⟩:=hq.good HH.out hpb
  have hX2:=L2.ok
  rw[Frame.finish_at]
  walk_nrm
  refine co_value hZ hX2 (.tuple #[.pointer (some ⟨s,0,none⟩),.pointer (some ⟨b,0,none⟩)]) rfl rfl (by decide) (fun _=>by simp[go_sem,execOp,Act.eval]) (fun _=>by simp[go_sem,execOp,Act.eval]) ?_
  walk_nrm
  refine co_value hZ hX2 (.pointer (some ⟨s,0,none⟩)) rfl rfl (by decide) (fun _=>by simp[go_sem,execOp,Act.eval]) (fun _=>by simp[go_sem,execOp,Act.eval]) ?_
  walk_nrm
  refine co_value hZ hX2 (.pointer (some ⟨b,0,none⟩)) rfl rfl (by decide) (fun _=>by simp[go_sem,execOp,Act.eval]) (fun _=>by simp[go_sem,execOp,Act.eval]) ?_
  walk_nrm
  refine co_value hZ hX2 (.pointer (some ⟨s,0,none⟩)) rfl rfl (by decide) (fun _=>by simp[go_sem,execOp,Act.eval]) (fun _=>by simp[go_sem,execOp,Act.eval]) ?_
  walk_nrm
  refine co_value hZ hX2 (.pointer (some ⟨b,0,none⟩)) rfl rfl (by decide) (fun _=>by simp[go_sem,execOp,Act.eval]) (fun _=>by simp[go_sem,execOp,Act.eval]) ?_
  walk_nrm
  refine co_region_end hZ hX2 ?_
  refine co_seq hZ hX2 ?_
  refine co_seq hZ hX2 ?_
  refine co_code hZ hX2 TT (by decide) (by kernel_rfl) (by kernel_rfl) fun K hK u hu=> ?_
  go_wp2_with fail
  refine hK.out _ _ (co_same hu ?_)
  clear hK K hu u
  refine co_cond (t:=false) hZ hX2 (by simp[Act.eval]) ?_
  simp only[Bool.false_eq_true,↓reduceIte]
  refine co_skip hZ hX2 ?_
  obtain⟨hfar,_,hne⟩:=pl_ok hpb
  obtain⟨⟨hf1,hf2⟩,_⟩:=newE_ok hne
  obtain⟨hks2,hfs2⟩:=far_ok hfar
  have hk0:p.ks≠[]:=fun e=>by simp[firstS,e] at hf1
  have hRI:RI p.ks (numT (firstS p)) (List.replicate (firstS p).length ⟨0,0,0⟩) (plS (DW v b (.slice kA p.ks.length kc) p.ks) p pk) (plX (DW v b (.slice kA p.ks.length kc) p.ks) p pk):=RI.picks pk (RI.start hk0 hf2)
  have hBX:Cells v2 v.heap.size [.slice kA p.ks.length kc,.slice fA p.fs.length fc,.int .i64 p.most]:=BX.out.chg c2 id
  have C2:=C1.out.trans c2 (fun _ _=>id)
  have hPN:PnAt v2 p (.slice kA p.ks.length kc) (.slice fA p.fs.length fc):=⟨HH.out.pn.ks.chgK C2,HH.out.pn.fs.chg byR_flat C2 (fun _ _=>id)⟩
  have hkp:∀x F w,(DW v b (.slice kA p.ks.length kc) p.ks).mem x F w→Kp v.heap.size v w:=fun _ _ _ h=>DW_kp h
  clear hq c2 C1 BX C2 hpb HH hne
  generalize plS (DW v b (.slice kA p.ks.length kc) p.ks) p pk=S at L2 hop hRI
  generalize plX (DW v b (.slice kA p.ks.length kc) p.ks) p pk=x at L2 hRI
  obtain⟨gv,rv,wv,nv,hwx⟩:=L2.wx
  obtain⟨es0,e1,e2,e3,e4,e5,hR⟩:=hRI.es
  rw[e2,e3,e4,e5] at hwx
  have hn0:es0.length≤20000:=by
   obtain⟨_,_,h⟩:=L2.pl hD (Chg.refl _ _)
   have h1:=h.sm.ok.cnt
   have h2:=h.sm.ok.most
   rw[e1,List.length_map] at h1
   omega
  have HWX:=Hd.mk hwx
  have HPN:=Hd.mk hPN
  have HBX:=Hd.mk hBX
  have HR:=Hd.mk hR
  have c9:=hwx.cx (j:=0) rfl
  obtain⟨gA,gc,rfl,hg1,hg2,_⟩:=hwx.g.form
  have hbl:=hwx.box.lt
  have hql:=hBX.lt
  have hr0:readyS S=0:=by unfold readyS;rw[hop];rfl
  clear hRI e2 e3 e4 e5 hwx hPN hBX hR
  have L3:=Hd.mk L2
  refine co_seq hZ hX2 ?_
  refine co_code hZ hX2 TT (by decide) (by kernel_rfl) (by kernel_rfl) fun K hKK u hu=> ?_
  have C0:=same_chg (F:=fun _=>False) hu
  obtain⟨tv,uv,PP⟩:=L2.pl hD C0
  have R:=Lib.hid ((Log_any PP.sm).mono (fun e w h=>by rw[hr0,hop,if_neg (by decide),e1] at h;exact h))
  have C0:=Hd.mk C0
  clear hu PP
  go_wp2_with (go_at_call 20;refine R.out.mono ?_;rintro e w4 ⟨lgv,rfl,hown,hb⟩;obtain⟨lA,lc,rfl,hl1,hl2,_⟩:=hown.form;have HO:=Hd.mk (hown.mono (show v2.heap.size≤u.heap.size from C0.out.size));have HB:=Hd.mk hb;clear hb hown;dsimp only)
  first|refine hKK.out _ _ ?_|refine⟨by trivial,by trivial,hKK.out _ _ ?_⟩
  have C4:=Hd.mk (C0.out.trans (Chg.of_below (F:=fun _=>False) HB.out) (fun _ _=>id))
  clear hKK K R C0 HB
  try rw[List.length_map] at hl1
  try rw[List.length_map] at HO
  try rw[List.length_map]
  try rw[List.length_map] at hg1
  try rw[List.length_map] at c9
  refine co_seq hZ hX2 ?_
  refine co_seq hZ hX2 ?_
  refine co_code hZ hX2 TT (by decide) (by kernel_rfl) (by kernel_rfl) fun K hKK u hu=> ?_
  have d9:=u_cell hu (C4.out.cell c9 id)
  try rw[List.length_map] at d9
  go_wp2_with fail
  first|refine hKK.out _ _ (co_same hu ?_)|refine⟨by trivial,by trivial,hKK.out _ _ (co_same hu ?_)⟩
  clear hKK K hu
  refine co_cond (t:=false) hZ hX2 (by simp[Act.eval]) ?_
  simp only[Bool.false_eq_true,↓reduceIte]
  refine co_skip hZ hX2 ?_
  refine co_seq hZ hX2 ?_
  refine co_code hZ hX2 TT (by decide) (by kernel_rfl) (by kernel_rfl) fun K hKK u hu=> ?_
  have C0:=C4.out.trans (same_chg (F:=fun _=>False) hu) (fun _ _=>id)
  have R:=Lib.hid (first_any p _ _ u ⟨HPN.out.ks.chgK C0,HPN.out.fs.chg byR_flat C0 (fun _ _=>id)⟩ hks2 hfs2)
  have b0:=C0.cell (HBX.out.c 0 _ rfl) id
  have b1:=C0.cell (HBX.out.c 1 _ rfl) id
  have b2:=C0.cell (HBX.out.c 2 _ rfl) id
  have HO1:=Hd.mk (HO.out.chg tnR_flat (same_chg (F:=fun _=>False) hu) (fun _ _=>id))
  have C0:=Hd.mk C0
  clear hu C4 HO
  go_wp2_with (go_at_call 23;refine R.out.mono ?_;rintro e w5 ⟨tlv,rfl,hown,hb⟩;obtain⟨tA,tc,rfl,ht1,ht2,_⟩:=hown.form;have HT:=Hd.mk (hown.mono (show v2.heap.size≤u.heap.size from C0.out.size));have HB:=Hd.mk hb;clear hb hown;dsimp only)
  first|refine hKK.out _ _ ?_|refine⟨by trivial,by trivial,hKK.out _ _ ?_⟩
  have C5:=Hd.mk (C0.out.trans (Chg.of_below (F:=fun _=>False) HB.out) (fun _ _=>id))
  have HO:=Hd.mk (HO1.out.up HB.out)
  clear hKK K R C0 HB HO1 b0 b1 b2
  refine co_seq hZ hX2 ?_
  refine co_code hZ hX2 TT (by decide) (by kernel_rfl) (by kernel_rfl) fun K hKK u hu=> ?_
  have hmk:∀w,(Instr.makeSlice 74 (.int .i64 ((firstS p).length:Int)) (.int .i64 ((firstS p).length:Int))).run Try.prog w=.ok (.slice (some ⟨w.heap.size,0,none⟩) (firstS p).length (firstS p).length) (w.alloc (.cells (madeCells zeroWa ((firstS p).length*3)) 37)):=fun w=>mk_wa _ (by omega) w
  have hz0:u.heap.size=w5.heap.size:=by rw[hu.heap]
  go_wp2_with fail
  first|refine hKK.out _ _ (co_same (hu.alloc _) ?_)|refine⟨by trivial,by trivial,hKK.out _ _ (co_same (hu.alloc _) ?_)⟩
  clear hKK K hu hmk hz0 u
  have A0:StA v2 (w5.alloc (.cells (madeCells zeroWa ((firstS p).length*3)) 37)) (.slice lA es0.length lc) (.slice tA (firstS p).length tc) (.slice (some ⟨w5.heap.size,0,none⟩) (firstS p).length (firstS p).length) (es0.map (·.tn)) (firstS p) (List.replicate (firstS p).length wa0):=
   ⟨((Kp.refl v2).still C5.out).still (Chg.alloc _ _ _),HO.out.up (ba _ _),HT.out.up (ba _ _),(own_wa0 w5 _ (by omega)).mono C5.out.size⟩
  generalize w5.alloc (.cells (madeCells zeroWa ((firstS p).length*3)) 37)=w6 at A0⊢
  generalize w5.heap.size=wb0 at A0⊢
  clear HO HT C5
  have hT0:(firstS p)≠[]:=fun e=>by rw[e] at hf1;simp at hf1
  obtain⟨tb,htb⟩:=A0.t.box hT0
  subst htb
  generalize hT9:firstS p=T9 at A0 hf1 hf2 HR ht1 hT0⊢
  refine co_seq hZ hX2 ?_
  refine co_code hZ hX2 TT (by decide) (by kernel_rfl) (by kernel_rfl) fun K hKK u hu=> ?_
  have HA0:=Lib.hid (A0.same hu)
  clear A0 hu
  suffices hM:∀w7,StA v2 w7 (.slice lA es0.length lc) (.slice (some ⟨tb,0,none⟩) T9.length tc) (.slice (some ⟨wb0,0,none⟩) T9.length T9.length) (es0.map (·.tn)) (numK T9 T9.length) (List.replicate T9.length wa0)→∀(J1 Vk Je Ji Yt Ya Fa J9 Y8 Q0 Yc Jd Yh Dn Vi Yi Fk J0 Vr Dg Qq D3 Jb Vo Jg Fn Gx Yo Qw Vf Jv Gr Yx Vq Dq F5 Fo Vl Y3 Vd Gi Ye Qc Jy Fb V9 Q5 Gf Yu V5 J2 Fm Ys Jx Qk Dv F0 Fl Yg D2 Qf Vw Jq Vx Df Fx V0 Yy Db V7 Qz F1 Dy Fu Fd Dw Yb Q9 J3 J7 Va Vc V1 Jo Qt Jn Qg Yv V2 Jw Jf D1 Du Vh Fp Qi G3 Yp Dk Dp Vn Fg Ff G2 Dh Qn Y2 Ga Qe Y7 Ql Qr Gu Gl J4 Yw Fj Qh V6 Gy F6 Yj F8 Fv Gq G4 J8 Ve G7 Y9 Gn Qs Jc Gb Qb Fh Fi Yl Dj Vs Di V8 Dr Gw Yz Fq Gd Qj Fr Dl Vv G9 Gp Dc Vt Q1 G0 Jz Vb V3 Yk Y5 Qa F3 J5 G5 Ym Yn Qm Ds Qu Q2 Dd F2 D0 J6 Yq V4 Ja Ju Gz Fy Y6 Fc Q8 Gs F9 Dt Qv Gm Jj G6 Qo Gv De Y0 Gj Jp Ft Vu Dx Yd Gk Jr Y1 Qy Fz Dm Yr Vg Vm Vy Jt G1 Jm Vp Fs Yf Vz Jh Gg Gc Qd Vj Q3 F4 Q4 Js Q7 Q6 Qx Qp Y4 Fe Jl Dz Da G8 Fw F7 Gh Jk:Value),K #[J1,Vk,.pointer (some ⟨v.heap.size,0,none⟩),Je,.bool false,.pointer (some ⟨s,0,none⟩),.pointer (some ⟨b,0,none⟩),.slice lA es0.length lc,Ji,.slice (some ⟨tb,0,none⟩) T9.length tc,.slice (some ⟨wb0,0,none⟩) T9.length T9.length,Yt,Ya,Fa,J9,Y8,Q0,Yc,Jd,Yh,Dn,Vi,Yi,Fk,J0,Vr,Dg,Qq,D3,Jb,Vo,Jg,Fn,Gx,Yo,Qw,Vf,Jv,Gr,Yx,Vq,Dq,F5,Fo,Vl,Y3,Vd,Gi,Ye,Qc,Jy,Fb,V9,Q5,Gf,Yu,V5,J2,Fm,Ys,Jx,Qk,Dv,F0,Fl,Yg,D2,Qf,Vw,Jq,Vx,Df,Fx,V0,Yy,Db,V7,Qz,F1,Dy,Fu,Fd,Dw,Yb,Q9,J3,J7,Va,Vc,V1,Jo,Qt,Jn,Qg,Yv,V2,Jw,Jf,D1,Du,Vh,Fp,Qi,G3,Yp,Dk,Dp,Vn,Fg,Ff,G2,Dh,Qn,Y2,Ga,Qe,Y7,Ql,Qr,Gu,Gl,J4,Yw,Fj,Qh,V6,Gy,F6,Yj,F8,Fv,Gq,G4,J8,Ve,G7,Y9,Gn,Qs,Jc,Gb,Qb,Fh,Fi,Yl,Dj,Vs,Di,V8,Dr,Gw,Yz,Fq,Gd,Qj,Fr,Dl,Vv,G9,Gp,Dc,Vt,Q1,G0,Jz,Vb,V3,Yk,Y5,Qa,F3,J5,G5,Ym,Yn,Qm,Ds,Qu,Q2,Dd,F2,D0,J6,Yq,V4,Ja,Ju,Gz,Fy,Y6,Fc,Q8,Gs,F9,Dt,Qv,Gm,Jj,G6,Qo,Gv,De,Y0,Gj,Jp,Ft,Vu,Dx,Yd,Gk,Jr,Y1,Qy,Fz,Dm,Yr,Vg,Vm,Vy,Jt,G1,Jm,Vp,Fs,Yf,Vz,Jh,Gg,Gc,Qd,Vj,Q3,F4,Q4,Js,Q7,Q6,Qx,Qp,Y4,Fe,Jl,Dz,Da,G8,Fw,F7,Gh,Jk] w7 by
   have HM:=Hd.mk hM
   clear hKK hM
   go_wp2_with fail
   go_loopw [11] (fun i wr=> ∃k:Nat,k≤T9.length∧i=.int .i64 (k:Int)∧Hid (StA v2 wr (.slice lA es0.length lc) (.slice (some ⟨tb,0,none⟩) T9.length tc) (.slice (some ⟨wb0,0,none⟩) T9.length T9.length) (es0.map (·.tn)) (numK T9 k) (List.replicate T9.length wa0))) (fun i _=>201-(intOf i).toNat)
   case atStart=>exact⟨0,by omega,rfl,by rw[numK_zero];exact HA0.out⟩
   case round=>
    obtain⟨k,hk,rfl,ha⟩:=hrel
    by_cases hlt:k<T9.length
    ·have hkn:k<(numK T9 k).length:=by rw[numK_len];exact hlt
     obtain⟨cs,h1',h2,h3⟩:=ha.out.t.cell_ hkn
     have h1:cs=(numK T9 k)[k].cells:=h1'
     have q0:=h2 0 _ (by rw[h1];rfl)
     have qf:=h3 (k*7)
     simp only[tkR,Nat.add_zero] at q0
     have hnx:=Lib.hid (numK_next (l:=T9) hkn)
     have hnum:=ha.out.t.num hkn ((k:Int)+1)
     rw[hnx.out] at hnum
     have AN:=Lib.hid (StA.setT ha.out hnum)
     generalize(numK T9 k)[k].id=idk at q0
     have htl:=(ha.out.t.lt tb rfl).2
     clear h2 h3 h1 h1' hnum hnx hkn HA0 HM
     go_wp2_with fail
     go_roundw
     case rel=>exact⟨k+1,by omega,by go_num,AN.out⟩
     case measure=>simp[intOf]<;>omega
    ·have hke:k=T9.length:=by omega
     subst hke
     clear hlt HA0
     go_wp2_with fail
     first|exact HM.out _ ha.out ..|exact⟨by trivial,by trivial,HM.out _ ha.out ..⟩
  intro w7 A7 J1 Vk Je Ji Yt Ya Fa J9 Y8 Q0 Yc Jd Yh Dn Vi Yi Fk J0 Vr Dg Qq D3 Jb Vo Jg Fn Gx Yo Qw Vf Jv Gr Yx Vq Dq F5 Fo Vl Y3 Vd Gi Ye Qc Jy Fb V9 Q5 Gf Yu V5 J2 Fm Ys Jx Qk Dv F0 Fl Yg D2 Qf Vw Jq Vx Df Fx V0 Yy Db V7 Qz F1 Dy Fu Fd Dw Yb Q9 J3 J7 Va Vc V1 Jo Qt Jn Qg Yv V2 Jw Jf D1 Du Vh Fp Qi G3 Yp Dk Dp Vn Fg Ff G2 Dh Qn Y2 Ga Qe Y7 Ql Qr Gu Gl J4 Yw Fj Qh V6 Gy F6 Yj F8 Fv Gq G4 J8 Ve G7 Y9 Gn Qs Jc Gb Qb Fh Fi Yl Dj Vs Di V8 Dr Gw Yz Fq Gd Qj Fr Dl Vv G9 Gp Dc Vt Q1 G0 Jz Vb V3 Yk Y5 Qa F3 J5 G5 Ym Yn Qm Ds Qu Q2 Dd F2 D0 J6 Yq V4 Ja Ju Gz Fy Y6 Fc Q8 Gs F9 Dt Qv Gm Jj G6 Qo Gv De Y0 Gj Jp Ft Vu Dx Yd Gk Jr Y1 Qy Fz Dm Yr Vg Vm Vy Jt G1 Jm Vp Fs Yf Vz Jh Gg Gc Qd Vj Q3 F4 Q4 Js Q7 Q6 Qx Qp Y4 Fe Jl Dz Da G8 Fw F7 Gh Jk
  refine hKK.out _ _ ?_
  clear hKK K HA0 u
  rw[numK_all] at A7
  refine co_seq hZ hX2 ?_
  refine co_seq hZ hX2 ?_
  refine co_code hZ hX2 TT (by decide) (by kernel_rfl) (by kernel_rfl) fun K hKK u hu=> ?_
  go_wp2_with fail
  first|refine hKK.out _ _ (co_same hu ?_)|refine⟨by trivial,by trivial,hKK.out _ _ (co_same hu ?_)⟩
  clear hKK K hu
  refine co_block hZ hX2 ?_
  refine co_loop hZ hX2 ?_
  have hl9:(numT T9).length=T9.length:=by unfold numT;simp
  have hw9:(List.replicate T9.length wa0).length=T9.length:=by simp
  have h:=steps_loop (Tf:=S.rs.map (fun r:Ru=>r.task)) (Wf:=S.rs.map (fun r:Ru=>r.wait)) (kv:=.slice kA p.ks.length kc) (fv:=.slice fA p.fs.length fc) (most:=p.most) (s:=s) (q:=v.heap.size) (lA:=lA) (lc:=lc) (tA:=some ⟨tb,0,none⟩) (wA:=some ⟨wb0,0,none⟩) (tc:=tc) (wc:=T9.length) hZ hX2 HWX.out ⟨HBX.out,HPN.out.ks⟩ hn0 ⟨hl1,hl2⟩ (fun w tA2 wA2 tc2 wc2 A9 J1 Vk Je Ji Yt Fa J9 Y8 Q0 Yc Jd Yh Dn Vi Yi Fk J0 Vr Dg Qq D3 Jb Vo Jg Fn Gx Yo Qw Vf Jv Gr Yx Vq Dq F5 Fo Vl Y3 Vd Gi Ye Qc Jy Fb V9 Q5 Gf Yu V5 J2 Fm Ys Jx Qk Dv F0 Fl Yg D2 Qf Vw Jq Vx Df Fx V0 Yy Db V7 Qz F1 Dy Fu Fd Dw Yb Q9 J3 J7 Va Vc V1 Jo Qt Jn Qg Yv V2 Jw Jf D1 Du Vh Fp Qi G3 Yp Dk Dp Vn Fg Ff G2 Dh Qn Y2 Ga Qe Y7 Ql Qr Gu Gl J4 Yw Fj Qh V6 Gy F6 Yj F8 Fv Gq G4 J8 Ve G7 Y9 Gn Qs Jc Gb Qb Fh Fi Yl Dj Vs Di V8 Dr Gw Yz Fq Gd Qj Fr Dl Vv G9 Gp Dc Vt Q1 G0 Jz Vb V3 Yk Y5 Qa F3 J5 G5 Ym Yn Qm Ds Qu Q2 Dd F2 D0 J6 Yq V4 Ja Ju Gz Fy Y6 Fc Q8 Gs F9 Dt Qv Gm Jj G6 Qo Gv De Y0 Gj Jp Ft Vu Dx Yd Gk Jr Y1 Qy Fz Dm Yr Vg Vm Vy Jt G1 Jm Vp Fs Yf Vz Jh Gg Gc Qd Vj Q3 F4 Q4 Js Q7 Q6 Qx Qp Y4 Fe Jl Dz Da G8 Fw F7 Gh Jk Ya=>by
   have hs1:(S.rs.map (·.task)).length=S.rs.length:=by simp
   have hs2:(S.rs.map (·.wait)).length=S.rs.length:=by simp
   rw[hs1,hs2] at A9⊢
   exact steps_end hZ hF hD hkp hop L3.out A9 _ _ _ _ _ _ _ _ _ _ _ _ _ _ _ _ _ _ _ _ _ _ _ _ _ _ _ _ _ _ _ _ _ _ _ _ _ _ _ _ _ _ _ _ _ _ _ _ _ _ _ _ _ _ _ _ _ _ _ _ _ _ _ _ _ _ _ _ _ _ _ _ _ _ _ _ _ _ _ _ _ _ _ _ _ _ _ _ _ _ _ _ _ _ _ _ _ _ _ _ _ _ _ _ _ _ _ _ _ _ _ _ _ _ _ _ _ _ _ _ _ _ _ _ _ _ _ _ _ _ _ _ _ _ _ _ _ _ _ _ _ _ _ _ _ _ _ _ _ _ _ _ _ _ _ _ _ _ _ _ _ _ _ _ _ _ _ _ _ _ _ _ _ _ _ _ _ _ _ _ _ _ _ _ _ _ _ _ _ _ _ _ _ _ _ _ _ _ _ _ _ _ _ _ _ _ _ _ _ _ _ _ _ _ _ _ _ _ _ _ _ _ _ _ _ _ _ _ _ _ _ _ _ _ _ _ _ _ _ _ _ _ _ _ _) es0 0 rfl (by omega) (w:=w7) (T:=numT T9) (W:=List.replicate T9.length wa0) HR.out (by rw[hl9];exact hf2) (by rw[hl9,hw9];exact A7)
  rw[hl9,hw9,show((0:Nat):Int)=0 from rfl] at h
  clear A7 HR HWX HPN HBX L3 L2
  simp(config:={maxSteps:=2000000}) only[lbS,restS,body6,Try.f6,Option.getD_some,fstC,sndC,inC] at h⊢
  exact h _ _ _ _ _ _ _ _ _ _ _ _ _ _ _ _ _ _ _ _ _ _ _ _ _ _ _ _ _ _ _ _ _ _ _ _ _ _ _ _ _ _ _ _ _ _ _ _ _ _ _ _ _ _ _ _ _ _ _ _ _ _ _ _ _ _ _ _ _ _ _ _ _ _ _ _ _ _ _ _ _ _ _ _ _ _ _ _ _ _ _ _ _ _ _ _ _ _ _ _ _ _ _ _ _ _ _ _ _ _ _ _ _ _ _ _ _ _ _ _ _ _ _ _ _ _ _ _ _ _ _ _ _ _ _ _ _ _ _ _ _ _ _ _ _ _ _ _ _ _ _ _ _ _ _ _ _ _ _ _ _ _ _ _ _ _ _ _ _ _ _ _ _ _ _ _ _ _ _ _ _ _ _ _ _ _ _ _ _ _ _ _ _ _ _ _ _ _ _ _ _ _ _ _ _ _ _ _ _ _ _ _ _ _ _ _ _ _ _ _ _ _ _ _ _ _ _ _ _ _ _ _ _ _ _ _ _ _ _ _ _
end Co
end Go.Proofs.Ytlngbdggehghgaa

/-
  The law SchedSteps, in company: its end. Conditions: as each theorem says.
-/
import Derived.Test.YtlngbdggehghgaaCyX
namespace Go.Proofs.Ytlngbdggehghgaa
set_option linter.unusedSimpArgs false
set_option linter.unusedVariables false
namespace Co
open Go.Conc Go.RowKit
noncomputable def body6:Code:=Try.f6.body.getD .skip
structure StA (v2 w:World) (lg tv wv:Value) (L:List Tn) (T:List Tk) (W:List Wa):Prop where
 kp:Kp v2.heap.size v2 w
 lg:Own tnR 79 v2.heap.size w lg L
 t:Own tkR 35 v2.heap.size w tv T
 w:Own waR 37 v2.heap.size w wv W
theorem Kp.cell {B:Nat} {v w:World} {b i:Nat} {x:Value} (h:Kp B v w) (hc:v.cell? ⟨b,i,none⟩=some x) (hb:b<B):w.cell? ⟨b,i,none⟩=some x:=h.chg.cell hc (by show¬B≤b;omega)
theorem Liv.wx {v0 v:World} {b:Nat} {kv:Value} {ks:List (List De)} {B s:Nat} {g:Gh} {bs:List Nat} {S:SS} {x:RW} {M:Nat→Prop} (h:Liv (DW v0 b kv ks) B g s bs S x M v):
 ∃gv rv wv nv,WX v0.heap.size b kv x.flags gv rv wv nv gv rv wv nv x.given x.ret x.waits x.begun v:=by
 obtain⟨_,_,F,_,hm,_⟩:=h.sm
 obtain⟨gv,rv,wv,nv,h1,_⟩:=hm
 exact⟨gv,rv,wv,nv,h1⟩
noncomputable def endS:Code:=sndC (sndC (sndC (sndC (sndC (sndC (sndC (sndC (sndC body6))))))))
set_option maxRecDepth 100000 in
set_option maxHeartbeats 8000000 in
theorem steps_end {Z:Goal} {v v2:World} {D:Wd} {B s:Nat} {S:SS} {x:RW} {tA wA:Option Addr} {tc wc:Nat} {lg:Value} {Lt:List Tn} (hZ:Z.Ok Try.prog) (hF:Fin Z v) (hD:Wd.Ok D) (hkp:∀x F w,D.mem x F w→Kp v.heap.size v w) (hop:S.closed=false) {g:Gh} {bs:List Nat} {M:Nat→Prop} {w:World}
 (L:Liv D B g s bs S x M v2) (A:StA v2 w lg (.slice tA S.rs.length tc) (.slice wA S.rs.length wc) Lt (S.rs.map (·.task)) (S.rs.map (·.wait))) (J2 Vm J1 Je D5 Fh Ji Yv Yc Fc Yb Qa Q2 Ye Jd Yj Dt Vk Yk Fn J3 Vt Dl Qs D8 Jb Vq Jg Fq G1 Yq Qy Vh Jw Gw Yz Vs Dv F8 Fr Vn Y5 Vf Gm Yg Qe Jz Fd Fb Q7 Gj Yw V7 J4 Fp Yu Jy Qm D0 F3 Fo Yi D7 Qh Vy Jr Vz Dk F0 V2 Y0 Dg V9 Q1 F4 D3 Fx Ff D1 Yd Vb J5 J8 Vc Ve V3 Jp Qv Jo Qi Yx V4 Jx Jf D6 Dz Vj Fs Qk G7 Yr Dq Du Vp Fj Fi G6 Dm Qp Y4 Gd Qg Y9 Qn Qt Gy Gq J6 Yy Fm Qj V8 G2 F9 Yl Gb Fy Gv G8 Ya Vg Db Qb Gs Qu Jc Gf Qd Fk Fl Yn Dp Vu Dn Fa Dw G0 Y1 Ft Gi Ql Fu Dr Vx Dd Gu Dh Vv Q3 G4 J0 Vd V5 Ym Y7 Qc F6 J7 G9 Yo Yp Qo Dx Qw Q4 Di F5 Jn J9 Ys V6 Ja Jv G3 F1 Y8 Fe Va Gx Gc Dy Qx Gr Jj Da Qq Gz Dj Y2 Gn Jq Fw Vw D2 Yf Gp Js Y3 Q0 F2 Ds Yt Vi Vo V0 Ju G5 Jm Vr Fv Yh V1 Jh Gk Gg Qf Vl Q5 F7 Q6 Jt Q9 Q8 Qz Qr Y6 Fg Jl D4 Df Dc Fz Ga Gl Jk:Value):Co Try.prog Z 0 (g.fx Try.prog κL 0) (G ((Go.Conc.base 6).at ⟨#[J2,Vm,J1,Je,.bool false,.pointer (some ⟨s,0,none⟩),D5,Fh,Ji,.slice tA S.rs.length tc,.slice wA S.rs.length wc,Yv,Yc,Fc,Yb,Qa,Q2,Ye,Jd,Yj,Dt,Vk,Yk,Fn,J3,Vt,Dl,Qs,D8,Jb,Vq,Jg,Fq,G1,Yq,Qy,Vh,Jw,Gw,Yz,Vs,Dv,F8,Fr,Vn,Y5,Vf,Gm,Yg,Qe,Jz,Fd,Fb,Q7,Gj,Yw,V7,J4,Fp,Yu,Jy,Qm,D0,F3,Fo,Yi,D7,Qh,Vy,Jr,Vz,Dk,F0,V2,Y0,Dg,V9,Q1,F4,D3,Fx,Ff,D1,Yd,Vb,J5,J8,Vc,Ve,V3,Jp,Qv,Jo,Qi,Yx,V4,Jx,Jf,D6,Dz,Vj,Fs,Qk,G7,Yr,Dq,Du,Vp,Fj,Fi,G6,Dm,Qp,Y4,Gd,Qg,Y9,Qn,Qt,Gy,Gq,J6,Yy,Fm,Qj,V8,G2,F9,Yl,Gb,Fy,Gv,G8,Ya,Vg,Db,Qb,Gs,Qu,Jc,Gf,Qd,Fk,Fl,Yn,Dp,Vu,Dn,Fa,Dw,G0,Y1,Ft,Gi,Ql,Fu,Dr,Vx,Dd,Gu,Dh,Vv,Q3,G4,J0,Vd,V5,Ym,Y7,Qc,F6,J7,G9,Yo,Yp,Qo,Dx,Qw,Q4,Di,F5,Jn,J9,Ys,V6,Ja,Jv,G3,F1,Y8,Fe,Va,Gx,Gc,Dy,Qx,Gr,Jj,Da,Qq,Gz,Dj,Y2,Gn,Jq,Fw,Vw,D2,Yf,Gp,Js,Y3,Q0,F2,Ds,Yt,Vi,Vo,V0,Ju,G5,Jm,Vr,Fv,Yh,V1,Jh,Gk,Gg,Qf,Vl,Q5,F7,Q6,Jt,Q9,Q8,Qz,Qr,Y6,Fg,Jl,D4,Df,Dc,Fz,Ga,Gl,Jk],[]⟩ [.code endS]) []) w:=by
 have hM:∀k,M k→¬v2.heap.size≤k:=fun k hk=>by have:=L.lt k hk;omega
 have L:Liv D B g s bs S x M w:=⟨L.sch.chg hD A.kp.chg (fun k hk=>hM k hk),fun k hk=>Nat.lt_of_lt_of_le (L.lt k hk) A.kp.le⟩
 have hX:=L.ok
 have HT:=Hd.mk A.t
 have HW:=Hd.mk A.w
 have hc1:S.rs.length≤tc∧tc≤9223372036854775807:=by
  obtain⟨_,_,e,h1,h2,_⟩:=A.t.form
  simp only[List.length_map] at e h1
  cases e
  exact⟨h1,h2⟩
 have hc2:S.rs.length≤wc∧wc≤9223372036854775807:=by
  obtain⟨_,_,e,h1,h2,_⟩:=A.w.form
  simp only[List.length_map] at e h1
  cases e
  exact⟨h1,h2⟩
 obtain⟨hc11,hc12⟩:=hc1
 obtain⟨hc21,hc22⟩:=hc2
 clear A hM
 simp only[endS,body6,Try.f6,Option.getD_some,sndC]
 refine co_seq hZ hX ?_
 refine co_codeR hZ hX TT rfl (by kernel_rfl) (by kernel_rfl) fun K hK u hu=> ?_
 have C0:=same_chg (F:=fun _=>False) hu
 obtain⟨tv,uv,PP⟩:=L.pl hD C0
 have hT:=Lib.hid (fun(W:World) (hb:Below u.heap.size u W) (n:Int) (hn:Bd n)=>Task_any (PP.up hb).sm n hn)
 have hrl:S.rs.length≤200:=PP.sm.ok.few
 have ht:=Lib.hid ((HT.out.chg tkR_flat C0 (fun _ _=>id)).sl)
 have hw:=Lib.hid ((HW.out.chg waR_flat C0 (fun _ _=>id)).sl)
 have C0:=Hd.mk C0
 clear hu PP
 suffices hM:∀w,Below u.heap.size u w→∀(J2 Vm J1 Je D5 Fh Ji D9 Yv Yc Fc Yb Qa Q2 Ye Jd Yj Dt Vk Yk Fn J3 Vt Dl Qs D8 Jb Vq Jg Fq G1 Yq Qy Vh Jw Gw Yz Vs Dv F8 Fr Vn Y5 Vf Gm Yg Qe Jz Fd Fb Q7 Gj Yw V7 J4 Fp Yu Jy Qm D0 F3 Fo Yi D7 Qh Vy Jr Vz Dk F0 V2 Y0 Dg V9 Q1 F4 D3 Fx Ff D1 Yd Vb J5 J8 Vc Ve V3 Jp Qv Jo Qi Yx V4 Jx Jf D6 Dz Vj Fs Qk G7 Yr Dq Du Vp Fj Fi G6 Dm Qp Y4 Gd Qg Y9 Qn Qt Gy Gq J6 Yy Fm Qj V8 G2 F9 Yl Gb Fy Gv G8 Ya Vg Db Qb Gs Qu Jc Gf Qd Fk Fl Yn Dp Vu Dn Fa Dw G0 Y1 Ft Gi Ql Fu Dr Vx Dd Gu Dh Vv Q3 G4 J0 Vd V5 Ym Y7 Qc F6 J7 G9 Yo Yp Qo Dx Qw Q4 Di F5 Jn J9 Ys V6 Ja Jv G3 F1 Y8 Fe Va Gx Gc Dy Qx Gr Jj Da Qq Gz Dj Y2 Gn Jq Fw Vw D2 Yf Gp Js Y3 Q0 F2 Ds Yt Vi Vo V0 Ju G5 Jm Vr Fv Yh V1 Jh Gk Gg Qf Vl Q5 F7 Q6 Jt Q9 Q8 Qz Qr Y6 Fg Jl D4 Df Dc Fz Ga Gl Jk:Value),K #[J2,Vm,J1,Je,.bool false,.pointer (some ⟨s,0,none⟩),D5,Fh,Ji,.slice tA S.rs.length tc,D9,Yv,Yc,Fc,Yb,Qa,Q2,Ye,Jd,Yj,Dt,Vk,Yk,Fn,J3,Vt,Dl,Qs,D8,Jb,Vq,Jg,Fq,G1,Yq,Qy,Vh,Jw,Gw,Yz,Vs,Dv,F8,Fr,Vn,Y5,Vf,Gm,Yg,Qe,Jz,Fd,Fb,Q7,Gj,Yw,V7,J4,Fp,Yu,Jy,Qm,D0,F3,Fo,Yi,D7,Qh,Vy,Jr,Vz,Dk,F0,V2,Y0,Dg,V9,Q1,F4,D3,Fx,Ff,D1,Yd,Vb,J5,J8,Vc,Ve,V3,Jp,Qv,Jo,Qi,Yx,V4,Jx,Jf,D6,Dz,Vj,Fs,Qk,G7,Yr,Dq,Du,Vp,Fj,Fi,G6,Dm,Qp,Y4,Gd,Qg,Y9,Qn,Qt,Gy,Gq,J6,Yy,Fm,Qj,V8,G2,F9,Yl,Gb,Fy,Gv,G8,Ya,Vg,Db,Qb,Gs,Qu,Jc,Gf,Qd,Fk,Fl,Yn,Dp,Vu,Dn,Fa,Dw,G0,Y1,Ft,Gi,Ql,Fu,Dr,Vx,Dd,Gu,Dh,Vv,Q3,G4,J0,Vd,V5,Ym,Y7,Qc,F6,J7,G9,Yo,Yp,Qo,Dx,Qw,Q4,Di,F5,Jn,J9,Ys,V6,Ja,Jv,G3,F1,Y8,Fe,Va,Gx,Gc,Dy,Qx,Gr,Jj,Da,Qq,Gz,Dj,Y2,Gn,Jq,Fw,Vw,D2,Yf,Gp,Js,Y3,Q0,F2,Ds,Yt,Vi,Vo,V0,Ju,G5,Jm,Vr,Fv,Yh,V1,Jh,Gk,Gg,Qf,Vl,Q5,F7,Q6,Jt,Q9,Q8,Qz,Qr,Y6,Fg,Jl,D4,Df,Dc,Fz,Ga,Gl,Jk] w by
  have HM:=Hd.mk hM
  clear hK hM
  go_wp2_with fail
  go_loopw [4,16] (fun q i wr=> ∃k:Nat,k≤S.rs.length∧q=.bool false∧i=.int .i64 (k:Int)∧Hid (Below u.heap.size u wr)) (fun _ i _=>201-(intOf i).toNat)
  case atStart=>exact⟨0,by omega,rfl,rfl,Below.refl _ _⟩
  case round=>
   obtain⟨k,hk,rfl,rfl,hb⟩:=hrel
   by_cases hlt:k<S.rs.length
   ·have R:=hT.out _ hb.out ((k:Int)+1) (by unfold Bd;omega)
    have hf:findS S ((k:Int)+1)=0:=by unfold findS;rw[hop,if_neg (by decide),if_pos (by omega)]
    have hts:taskS S ((k:Int)+1)=(S.rs[k].task,S.rs[k].wait):=by unfold taskS;rw[if_pos hf,show((k:Int)+1-1).toNat=k by omega,List.getElem?_eq_getElem hlt];rfl
    rw[hts,hf] at R
    obtain⟨tb,tz,tcs,e1,htb,t2,t3⟩:=(ht.out.up hb.out).at_ (show k<(S.rs.map (·.task)).length by simpa using hlt)
    obtain⟨wb,wo,wcs,e2,hwb,w2,w3⟩:=(hw.out.up hb.out).at_ (show k<(S.rs.map (·.wait)).length by simpa using hlt)
    subst e1 e2
    rw[List.getElem_map] at t2 w2
    generalize S.rs[k]=r at R t2 w2
    obtain⟨⟨y1,y2,y3,y4,y5,y6,y7⟩,⟨z1,z2,z3⟩,ag⟩:=r
    simp only[Tk.cells,Wa.cells] at R
    have p0:=t3 0 _ (by rw[show tcs=_ from t2];rfl)
    have p1:=t3 1 _ (by rw[show tcs=_ from t2];rfl)
    have p2:=t3 2 _ (by rw[show tcs=_ from t2];rfl)
    have p3:=t3 3 _ (by rw[show tcs=_ from t2];rfl)
    have p4:=t3 4 _ (by rw[show tcs=_ from t2];rfl)
    have p5:=t3 5 _ (by rw[show tcs=_ from t2];rfl)
    have p6:=t3 6 _ (by rw[show tcs=_ from t2];rfl)
    have q0:=w3 0 _ (by rw[show wcs=_ from w2];rfl)
    have q1:=w3 1 _ (by rw[show wcs=_ from w2];rfl)
    have q2:=w3 2 _ (by rw[show wcs=_ from w2];rfl)
    simp only[tkR,waR,Nat.add_zero] at p0 p1 p2 p3 p4 p5 p6 q0 q1 q2
    have n1:=neq_tk ⟨y1,y2,y3,y4,y5,y6,y7⟩ ⟨y1,y2,y3,y4,y5,y6,y7⟩
    have n2:=neq_wa ⟨z1,z2,z3⟩ ⟨z1,z2,z3⟩
    simp only[decide_true,Bool.not_true] at n1 n2
    have R:=Lib.hid (R.mono (fun e w' h=>(show e=_∧Below wr.heap.size wr w'∧_∧_∧_∧_∧_∧_∧_∧_∧_∧_∧tb<w'.heap.size∧wb<w'.heap.size from⟨h.1,h.2,cell_later h.2 p0,cell_later h.2 p1,cell_later h.2 p2,cell_later h.2 p3,cell_later h.2 p4,cell_later h.2 p5,cell_later h.2 p6,cell_later h.2 q0,cell_later h.2 q1,cell_later h.2 q2,Nat.lt_of_lt_of_le htb h.2.size,Nat.lt_of_lt_of_le hwb h.2.size⟩)))
    clear hT ht hw t2 t3 w2 w3 hf hts p0 p1 p2 p3 p4 p5 p6 q0 q1 q2 htb hwb
    go_wp2_with (go_at_call 13;refine R.out.mono ?_;rintro e w6 ⟨rfl,hb2,p0,p1,p2,p3,p4,p5,p6,q0,q1,q2,htb,hwb⟩;have HB:=Hd.mk hb2;clear hb2;dsimp only)
    go_quiet (fail)
    go_wp2_with fail
    go_roundw
    case rel=>exact⟨k+1,by omega,rfl,by go_num,bdN (bal (bal (hb.out.trans (HB.out.mono hb.out.size)))) _⟩
    case measure=>simp[intOf]<;>omega
   ·have hke:k=S.rs.length:=by omega
    subst hke
    clear hlt hT ht hw
    go_wp2_with fail
    exact⟨rfl,rfl,HM.out _ hb.out ..⟩
 intro w6 hbw J2 Vm J1 Je D5 Fh Ji D9 Yv Yc Fc Yb Qa Q2 Ye Jd Yj Dt Vk Yk Fn J3 Vt Dl Qs D8 Jb Vq Jg Fq G1 Yq Qy Vh Jw Gw Yz Vs Dv F8 Fr Vn Y5 Vf Gm Yg Qe Jz Fd Fb Q7 Gj Yw V7 J4 Fp Yu Jy Qm D0 F3 Fo Yi D7 Qh Vy Jr Vz Dk F0 V2 Y0 Dg V9 Q1 F4 D3 Fx Ff D1 Yd Vb J5 J8 Vc Ve V3 Jp Qv Jo Qi Yx V4 Jx Jf D6 Dz Vj Fs Qk G7 Yr Dq Du Vp Fj Fi G6 Dm Qp Y4 Gd Qg Y9 Qn Qt Gy Gq J6 Yy Fm Qj V8 G2 F9 Yl Gb Fy Gv G8 Ya Vg Db Qb Gs Qu Jc Gf Qd Fk Fl Yn Dp Vu Dn Fa Dw G0 Y1 Ft Gi Ql Fu Dr Vx Dd Gu Dh Vv Q3 G4 J0 Vd V5 Ym Y7 Qc F6 J7 G9 Yo Yp Qo Dx Qw Q4 Di F5 Jn J9 Ys V6 Ja Jv G3 F1 Y8 Fe Va Gx Gc Dy Qx Gr Jj Da Qq Gz Dj Y2 Gn Jq Fw Vw D2 Yf Gp Js Y3 Q0 F2 Ds Yt Vi Vo V0 Ju G5 Jm Vr Fv Yh V1 Jh Gk Gg Qf Vl Q5 F7 Q6 Jt Q9 Q8 Qz Qr Y6 Fg Jl D4 Df Dc Fz Ga Gl Jk
 have C1':=C0.out.trans (Chg.of_below (F:=fun _=>False) hbw) (fun _ _=>id)
 refine hK.out _ _ ?_
 have L:=L.still hD C1'
 clear hK K hT ht hw C0 C1' hbw HT HW
 refine co_seq hZ hX ?_
 refine co_code hZ hX TT (by decide) (by kernel_rfl) (by kernel_rfl) fun K hK u hu=> ?_
 have C0:=same_chg (F:=fun _=>False) hu
 obtain⟨tv,uv,PP⟩:=L.pl hD C0
 have hrl:=PP.sm.ok.few
 have R:=Task_any PP.sm ((S.rs.length:Int)+1) (by unfold Bd;omega)
 have hf:findS S ((S.rs.length:Int)+1)=4:=by unfold findS;rw[hop,if_neg (by decide),if_neg (by omega)]
 have ht:taskS S ((S.rs.length:Int)+1)=(⟨0,0,0,0,0,0,0⟩,⟨0,0,0⟩):=by unfold taskS;rw[if_neg (by rw[hf];decide)]
 rw[ht,hf] at R
 simp only[Tk.cells,Wa.cells] at R
 have R:=Lib.hid R
 have C0:=Hd.mk C0
 clear hu PP hf ht
 go_wp2_with (go_at_call 13;refine R.out.mono ?_;rintro e w7 ⟨rfl,hb⟩;have HB:=Hd.mk hb;clear hb;dsimp only)
 first|refine hK.out _ _ ?_|refine⟨rfl,rfl,hK.out _ _ ?_⟩
 have C1':=C0.out.trans (Chg.of_below (F:=fun _=>False) HB.out) (fun _ _=>id)
 have L:=L.still hD C1'
 clear hK K R C0 HB C1'
 refine co_seq hZ hX ?_
 refine c_region (n:=0) (J:=fun _ a=>Co Try.prog Z 0 (g.fx Try.prog κL 0) a w7) (Co.calmly hZ hX) [0,1] rfl ?_
 refine co_value hZ hX (.pointer (some ⟨s,0,none⟩)) rfl rfl (by decide) (fun _=>by simp[go_sem,execOp,Act.eval]) (fun _=>by simp[go_sem,execOp,Act.eval]) ?_
 walk_nrm
 refine co_call2 hZ hX rfl rfl (by decide) rfl Try.func15 (by kernel_rfl) (by kernel_rfl) (vals:=#[.pointer (some ⟨s,0,none⟩)]) (by simp[Act.eval]) ?_
 refine Close_co hD hZ L.sch hop _ _ fun e X3 v3 hq=> ?_
 obtain⟨rfl,g3,rfl,L3,hC,c3⟩:=hq
 have KP:Kp v.heap.size v v3:=by
  obtain⟨_,_,_,_,hm,_⟩:=hC
  exact hkp _ _ _ hm
 have hX3:=L3.ok.fx κL_ok
 rw[Frame.finish_at]
 walk_nrm
 refine co_region_end hZ hX3 ?_
 refine co_seq hZ hX3 ?_
 refine c_region (n:=0) (J:=fun _ a=>Co Try.prog Z 0 (g3.fx Try.prog κL 0) a v3) (Co.calmly hZ hX3) [0,1,2,3,4,5] rfl ?_
 refine co_value hZ hX3 (.int .i64 4) rfl rfl (by decide) (fun _=>by simp[go_sem,execOp,Act.eval]) (fun _=>by simp[go_sem,execOp,Act.eval]) ?_
 walk_nrm
 refine co_value hZ hX3 (.bool true) rfl rfl (by decide) (fun _=>by simp[go_sem,execOp,Act.eval]) (fun _=>by simp[go_sem,execOp,Act.eval]) ?_
 walk_nrm
 refine co_value hZ hX3 (.bool true) rfl rfl (by decide) (fun _=>by simp[go_sem,execOp,Act.eval]) (fun _=>by simp[go_sem,execOp,Act.eval]) ?_
 walk_nrm
 refine co_call2 hZ hX3 rfl rfl (by decide) rfl Try.func11 (by kernel_rfl) (by kernel_rfl) (vals:=#[]) (by simp[Act.eval]) ?_
 refine awake_co hZ L3 _ _ fun e X9 v9 hq9=> ?_
 obtain⟨rfl,⟨g9,rfl,L9⟩,c9⟩:=hq9
 have hX9:=L9.ok.fx κL_ok
 rw[Frame.finish_at]
 walk_nrm
 refine co_value hZ hX9 (.bool true) rfl rfl (by decide) (fun _=>by simp[go_sem,execOp,Act.eval]) (fun _=>by simp[go_sem,execOp,Act.eval]) ?_
 walk_nrm
 refine co_value hZ hX9 (.bool true) rfl rfl (by decide) (fun _=>by simp[go_sem,execOp,Act.eval]) (fun _=>by simp[go_sem,execOp,Act.eval]) ?_
 walk_nrm
 refine co_region_end hZ hX9 ?_
 refine co_ret hZ hX9 ?_
 exact fin_leave hF L9 (KP.still c9).out rfl rfl Try.func6 (fun w=>by simp[results,Try.results6,go_sem]) (fun w=>by simp[results,Try.results6,go_sem]) (by kernel_rfl)
end Co
end Go.Proofs.Ytlngbdggehghgaa

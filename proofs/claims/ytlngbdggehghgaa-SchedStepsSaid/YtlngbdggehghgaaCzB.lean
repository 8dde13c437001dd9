/-
  The law SchedSteps, in company: the loop over the log. Conditions: as each theorem says.
-/
import Derived.Test.YtlngbdggehghgaaCzA
namespace Go.Proofs.Ytlngbdggehghgaa
set_option linter.unusedSimpArgs false
set_option linter.unusedVariables false
open Go.RowKit
namespace Co
open Go.Conc
set_option maxRecDepth 100000 in
set_option maxHeartbeats 4000000 in
theorem act249 {a:Act} {p2 p4 p5 p6 p7 p9 p10 p12 p13:Value} {C:Act→Prop} (E:EvA a 249 [(2,p2),(4,p4),(5,p5),(6,p6),(7,p7),(9,p9),(10,p10),(12,p12),(13,p13)]) (h:∀(J1 Vh Je Ji Yr D3 Y6 Qx Ya Jd Yf Dk Vf Yg Fg J0 Vo Dc Qn D0 Jb Vl Jg Fj Gu Ym Qt Vc Jv Gn Yv Vn Dm F2 Fk Vi Y1 Va Gf Yc Qa Jy V8 V6 Q2 Gb Ys V2 J2 Fi Yq Jx Qh Ds Fw Fh Ye Dz Qd Vt Jq Vu Db Ft Vx Yw G7 V4 Qw Fy Dv Fq Fa Dt J9 Q6 J3 J7 Q7 Q9 Vy Jo Qq Jn Qe Yt Vz Jw Jf Dy Dr Ve Fl Qf G0 Yn Dh Dl Vk Fc Fb Gz Dd Qk Y0 F7 Qc Y5 Qi Qo Gq Gi J4 Yu Ff D1 V3 Gv F3 Yh F5 Fr Gm G1 J8 Vb G4 Y7 Gk Qp Jc F8 Y9 Fd Fe Yj Dg Vp Df V5 Dn Gs Yx Fm Ga Qg Fn Di Vs D2 Gl G8 Vq Qy Gx Jz Q8 V0 Yi Y3 Y8 F0 J5 G2 Yk Yl Qj Dp Qr Qz G9 Fz Dx J6 Yo V1 Ja Ju Gw Fu Y4 V7 Q5 Gp F6 Dq Qs Gj Jj G3 Ql Gr Da Yy Gg Jp Fp Vr Du Yb Gh Jr Yz Qv Fv Dj Yp Vd Vj Vv Jt Gy Jm Vm Fo Yd Vw Jh Gc F9 Qb Vg Q0 F1 Q1 Js Q4 Q3 Qu Qm Y2 V9 Jl Dw G6 G5 Fs F4 Gd Jk:Value),C ⟨#[J1,Vh,p2,Je,p4,p5,p6,p7,Ji,p9,p10,Yr,p12,p13,D3,Y6,Qx,Ya,Jd,Yf,Dk,Vf,Yg,Fg,J0,Vo,Dc,Qn,D0,Jb,Vl,Jg,Fj,Gu,Ym,Qt,Vc,Jv,Gn,Yv,Vn,Dm,F2,Fk,Vi,Y1,Va,Gf,Yc,Qa,Jy,V8,V6,Q2,Gb,Ys,V2,J2,Fi,Yq,Jx,Qh,Ds,Fw,Fh,Ye,Dz,Qd,Vt,Jq,Vu,Db,Ft,Vx,Yw,G7,V4,Qw,Fy,Dv,Fq,Fa,Dt,J9,Q6,J3,J7,Q7,Q9,Vy,Jo,Qq,Jn,Qe,Yt,Vz,Jw,Jf,Dy,Dr,Ve,Fl,Qf,G0,Yn,Dh,Dl,Vk,Fc,Fb,Gz,Dd,Qk,Y0,F7,Qc,Y5,Qi,Qo,Gq,Gi,J4,Yu,Ff,D1,V3,Gv,F3,Yh,F5,Fr,Gm,G1,J8,Vb,G4,Y7,Gk,Qp,Jc,F8,Y9,Fd,Fe,Yj,Dg,Vp,Df,V5,Dn,Gs,Yx,Fm,Ga,Qg,Fn,Di,Vs,D2,Gl,G8,Vq,Qy,Gx,Jz,Q8,V0,Yi,Y3,Y8,F0,J5,G2,Yk,Yl,Qj,Dp,Qr,Qz,G9,Fz,Dx,J6,Yo,V1,Ja,Ju,Gw,Fu,Y4,V7,Q5,Gp,F6,Dq,Qs,Gj,Jj,G3,Ql,Gr,Da,Yy,Gg,Jp,Fp,Vr,Du,Yb,Gh,Jr,Yz,Qv,Fv,Dj,Yp,Vd,Vj,Vv,Jt,Gy,Jm,Vm,Fo,Yd,Vw,Jh,Gc,F9,Qb,Vg,Q0,F1,Q1,Js,Q4,Q3,Qu,Qm,Y2,V9,Jl,Dw,G6,G5,Fs,F4,Gd,Jk],[]⟩):C a:=by
 rw[E.form]
 have e2:=E.ev 2 p2 (by simp)
 have e4:=E.ev 4 p4 (by simp)
 have e5:=E.ev 5 p5 (by simp)
 have e6:=E.ev 6 p6 (by simp)
 have e7:=E.ev 7 p7 (by simp)
 have e9:=E.ev 9 p9 (by simp)
 have e10:=E.ev 10 p10 (by simp)
 have e12:=E.ev 12 p12 (by simp)
 have e13:=E.ev 13 p13 (by simp)
 rw[show List.range 249=[0,1,2,3,4,5,6,7,8,9,10,11,12,13,14,15,16,17,18,19,20,21,22,23,24,25,26,27,28,29,30,31,32,33,34,35,36,37,38,39,40,41,42,43,44,45,46,47,48,49,50,51,52,53,54,55,56,57,58,59,60,61,62,63,64,65,66,67,68,69,70,71,72,73,74,75,76,77,78,79,80,81,82,83,84,85,86,87,88,89,90,91,92,93,94,95,96,97,98,99,100,101,102,103,104,105,106,107,108,109,110,111,112,113,114,115,116,117,118,119,120,121,122,123,124,125,126,127,128,129,130,131,132,133,134,135,136,137,138,139,140,141,142,143,144,145,146,147,148,149,150,151,152,153,154,155,156,157,158,159,160,161,162,163,164,165,166,167,168,169,170,171,172,173,174,175,176,177,178,179,180,181,182,183,184,185,186,187,188,189,190,191,192,193,194,195,196,197,198,199,200,201,202,203,204,205,206,207,208,209,210,211,212,213,214,215,216,217,218,219,220,221,222,223,224,225,226,227,228,229,230,231,232,233,234,235,236,237,238,239,240,241,242,243,244,245,246,247,248] from rfl]
 simp only[List.map,e2,e4,e5,e6,e7,e9,e10,e12,e13]
 exact h _ _ _ _ _ _ _ _ _ _ _ _ _ _ _ _ _ _ _ _ _ _ _ _ _ _ _ _ _ _ _ _ _ _ _ _ _ _ _ _ _ _ _ _ _ _ _ _ _ _ _ _ _ _ _ _ _ _ _ _ _ _ _ _ _ _ _ _ _ _ _ _ _ _ _ _ _ _ _ _ _ _ _ _ _ _ _ _ _ _ _ _ _ _ _ _ _ _ _ _ _ _ _ _ _ _ _ _ _ _ _ _ _ _ _ _ _ _ _ _ _ _ _ _ _ _ _ _ _ _ _ _ _ _ _ _ _ _ _ _ _ _ _ _ _ _ _ _ _ _ _ _ _ _ _ _ _ _ _ _ _ _ _ _ _ _ _ _ _ _ _ _ _ _ _ _ _ _ _ _ _ _ _ _ _ _ _ _ _ _ _ _ _ _ _ _ _ _ _ _ _ _ _ _ _ _ _ _ _ _ _ _ _ _ _ _ _ _ _ _ _ _ _ _ _ _ _ _ _ _ _ _ _ _ _ _ _ _ _ _
set_option maxRecDepth 100000 in
set_option maxHeartbeats 8000000 in
theorem steps_loop {Z:Goal} {X:Fx} {v2:World} {s b q B lc:Nat} {lA:Option Addr} {kv fv gv rv wv nv kv2:Value} {fs:List Bool} {most:Int} {ks:List (List De)} {es0:List Ev} {Tf:List Tk} {Wf:List Wa} (hZ:Z.Ok Try.prog) (hX:X.Ok Try.prog 0)
 (hwx:WX B b kv2 fs gv rv wv nv gv rv wv nv (es0.map (·.given)) (es0.map (·.ret)) (es0.map (·.wait)) (es0.map (·.beg)) v2) (hP:PlnAt v2 q kv fv most ks) (hn0:es0.length≤20000) (hlc:es0.length≤lc∧lc≤9223372036854775807)
 (hend:∀(w:World) (tA wA:Option Addr) (tc wc:Nat),StA v2 w (.slice lA es0.length lc) (.slice tA Tf.length tc) (.slice wA Wf.length wc) (es0.map (·.tn)) Tf Wf→∀(J1 Vh Je Ji Yr D4 D3 Y6 Qx Ya Jd Yf Dk Vf Yg Fg J0 Vo Dc Qn D0 Jb Vl Jg Fj Gu Ym Qt Vc Jv Gn Yv Vn Dm F2 Fk Vi Y1 Va Gf Yc Qa Jy V8 V6 Q2 Gb Ys V2 J2 Fi Yq Jx Qh Ds Fw Fh Ye Dz Qd Vt Jq Vu Db Ft Vx Yw G7 V4 Qw Fy Dv Fq Fa Dt J9 Q6 J3 J7 Q7 Q9 Vy Jo Qq Jn Qe Yt Vz Jw Jf Dy Dr Ve Fl Qf G0 Yn Dh Dl Vk Fc Fb Gz Dd Qk Y0 F7 Qc Y5 Qi Qo Gq Gi J4 Yu Ff D1 V3 Gv F3 Yh F5 Fr Gm G1 J8 Vb G4 Y7 Gk Qp Jc F8 Y9 Fd Fe Yj Dg Vp Df V5 Dn Gs Yx Fm Ga Qg Fn Di Vs D2 Gl G8 Vq Qy Gx Jz Q8 V0 Yi Y3 Y8 F0 J5 G2 Yk Yl Qj Dp Qr Qz G9 Fz Dx J6 Yo V1 Ja Ju Gw Fu Y4 V7 Q5 Gp F6 Dq Qs Gj Jj G3 Ql Gr Da Yy Gg Jp Fp Vr Du Yb Gh Jr Yz Qv Fv Dj Yp Vd Vj Vv Jt Gy Jm Vm Fo Yd Vw Jh Gc F9 Qb Vg Q0 F1 Q1 Js Q4 Q3 Qu Qm Y2 V9 Jl Dw G6 G5 Fs F4 Gd Jk:Value) (D5:Value),Co Try.prog Z 0 X (G ((Go.Conc.base 6).at ⟨#[J1,Vh,.pointer (some ⟨q,0,none⟩),Je,.bool false,.pointer (some ⟨s,0,none⟩),.pointer (some ⟨b,0,none⟩),.slice lA es0.length lc,Ji,.slice tA Tf.length tc,.slice wA Wf.length wc,Yr,D5,D4,D3,Y6,Qx,Ya,Jd,Yf,Dk,Vf,Yg,Fg,J0,Vo,Dc,Qn,D0,Jb,Vl,Jg,Fj,Gu,Ym,Qt,Vc,Jv,Gn,Yv,Vn,Dm,F2,Fk,Vi,Y1,Va,Gf,Yc,Qa,Jy,V8,V6,Q2,Gb,Ys,V2,J2,Fi,Yq,Jx,Qh,Ds,Fw,Fh,Ye,Dz,Qd,Vt,Jq,Vu,Db,Ft,Vx,Yw,G7,V4,Qw,Fy,Dv,Fq,Fa,Dt,J9,Q6,J3,J7,Q7,Q9,Vy,Jo,Qq,Jn,Qe,Yt,Vz,Jw,Jf,Dy,Dr,Ve,Fl,Qf,G0,Yn,Dh,Dl,Vk,Fc,Fb,Gz,Dd,Qk,Y0,F7,Qc,Y5,Qi,Qo,Gq,Gi,J4,Yu,Ff,D1,V3,Gv,F3,Yh,F5,Fr,Gm,G1,J8,Vb,G4,Y7,Gk,Qp,Jc,F8,Y9,Fd,Fe,Yj,Dg,Vp,Df,V5,Dn,Gs,Yx,Fm,Ga,Qg,Fn,Di,Vs,D2,Gl,G8,Vq,Qy,Gx,Jz,Q8,V0,Yi,Y3,Y8,F0,J5,G2,Yk,Yl,Qj,Dp,Qr,Qz,G9,Fz,Dx,J6,Yo,V1,Ja,Ju,Gw,Fu,Y4,V7,Q5,Gp,F6,Dq,Qs,Gj,Jj,G3,Ql,Gr,Da,Yy,Gg,Jp,Fp,Vr,Du,Yb,Gh,Jr,Yz,Qv,Fv,Dj,Yp,Vd,Vj,Vv,Jt,Gy,Jm,Vm,Fo,Yd,Vw,Jh,Gc,F9,Qb,Vg,Q0,F1,Q1,Js,Q4,Q3,Qu,Qm,Y2,V9,Jl,Dw,G6,G5,Fs,F4,Gd,Jk],[]⟩ [.code (sndC restS)]) []) w):
 ∀(es:List Ev) (i:Nat),es0.drop i=es→i+es.length=es0.length→∀{w:World} {T:List Tk} {W:List Wa} {tA wA:Option Addr} {tc wc:Nat},RpOk ks es T W Tf Wf→T.length≤200→StA v2 w (.slice lA es0.length lc) (.slice tA T.length tc) (.slice wA W.length wc) (es0.map (·.tn)) T W→
 ∀(J1 Vh Je Ji Yr D4 D3 Y6 Qx Ya Jd Yf Dk Vf Yg Fg J0 Vo Dc Qn D0 Jb Vl Jg Fj Gu Ym Qt Vc Jv Gn Yv Vn Dm F2 Fk Vi Y1 Va Gf Yc Qa Jy V8 V6 Q2 Gb Ys V2 J2 Fi Yq Jx Qh Ds Fw Fh Ye Dz Qd Vt Jq Vu Db Ft Vx Yw G7 V4 Qw Fy Dv Fq Fa Dt J9 Q6 J3 J7 Q7 Q9 Vy Jo Qq Jn Qe Yt Vz Jw Jf Dy Dr Ve Fl Qf G0 Yn Dh Dl Vk Fc Fb Gz Dd Qk Y0 F7 Qc Y5 Qi Qo Gq Gi J4 Yu Ff D1 V3 Gv F3 Yh F5 Fr Gm G1 J8 Vb G4 Y7 Gk Qp Jc F8 Y9 Fd Fe Yj Dg Vp Df V5 Dn Gs Yx Fm Ga Qg Fn Di Vs D2 Gl G8 Vq Qy Gx Jz Q8 V0 Yi Y3 Y8 F0 J5 G2 Yk Yl Qj Dp Qr Qz G9 Fz Dx J6 Yo V1 Ja Ju Gw Fu Y4 V7 Q5 Gp F6 Dq Qs Gj Jj G3 Ql Gr Da Yy Gg Jp Fp Vr Du Yb Gh Jr Yz Qv Fv Dj Yp Vd Vj Vv Jt Gy Jm Vm Fo Yd Vw Jh Gc F9 Qb Vg Q0 F1 Q1 Js Q4 Q3 Qu Qm Y2 V9 Jl Dw G6 G5 Fs F4 Gd Jk:Value),Co Try.prog Z 0 X (G ((Go.Conc.base 6).at ⟨#[J1,Vh,.pointer (some ⟨q,0,none⟩),Je,.bool false,.pointer (some ⟨s,0,none⟩),.pointer (some ⟨b,0,none⟩),.slice lA es0.length lc,Ji,.slice tA T.length tc,.slice wA W.length wc,Yr,.int .i64 (i:Int),D4,D3,Y6,Qx,Ya,Jd,Yf,Dk,Vf,Yg,Fg,J0,Vo,Dc,Qn,D0,Jb,Vl,Jg,Fj,Gu,Ym,Qt,Vc,Jv,Gn,Yv,Vn,Dm,F2,Fk,Vi,Y1,Va,Gf,Yc,Qa,Jy,V8,V6,Q2,Gb,Ys,V2,J2,Fi,Yq,Jx,Qh,Ds,Fw,Fh,Ye,Dz,Qd,Vt,Jq,Vu,Db,Ft,Vx,Yw,G7,V4,Qw,Fy,Dv,Fq,Fa,Dt,J9,Q6,J3,J7,Q7,Q9,Vy,Jo,Qq,Jn,Qe,Yt,Vz,Jw,Jf,Dy,Dr,Ve,Fl,Qf,G0,Yn,Dh,Dl,Vk,Fc,Fb,Gz,Dd,Qk,Y0,F7,Qc,Y5,Qi,Qo,Gq,Gi,J4,Yu,Ff,D1,V3,Gv,F3,Yh,F5,Fr,Gm,G1,J8,Vb,G4,Y7,Gk,Qp,Jc,F8,Y9,Fd,Fe,Yj,Dg,Vp,Df,V5,Dn,Gs,Yx,Fm,Ga,Qg,Fn,Di,Vs,D2,Gl,G8,Vq,Qy,Gx,Jz,Q8,V0,Yi,Y3,Y8,F0,J5,G2,Yk,Yl,Qj,Dp,Qr,Qz,G9,Fz,Dx,J6,Yo,V1,Ja,Ju,Gw,Fu,Y4,V7,Q5,Gp,F6,Dq,Qs,Gj,Jj,G3,Ql,Gr,Da,Yy,Gg,Jp,Fp,Vr,Du,Yb,Gh,Jr,Yz,Qv,Fv,Dj,Yp,Vd,Vj,Vv,Jt,Gy,Jm,Vm,Fo,Yd,Vw,Jh,Gc,F9,Qb,Vg,Q0,F1,Q1,Js,Q4,Q3,Qu,Qm,Y2,V9,Jl,Dw,G6,G5,Fs,F4,Gd,Jk],[]⟩ [.code lbS,.inLoop lbS,.inBlock 2,.code (sndC restS)]) []) w:=by
 obtain⟨hlc1,hlc2⟩:=hlc
 have HEND:=Hd.mk hend
 have HWX:=Hd.mk hwx
 have HP:=Hd.mk hP
 clear hend hwx hP
 intro es
 induction es with
 |nil=>
  intro i hd hi w T W tA wA tc wc hR hT A J1 Vh Je Ji Yr D4 D3 Y6 Qx Ya Jd Yf Dk Vf Yg Fg J0 Vo Dc Qn D0 Jb Vl Jg Fj Gu Ym Qt Vc Jv Gn Yv Vn Dm F2 Fk Vi Y1 Va Gf Yc Qa Jy V8 V6 Q2 Gb Ys V2 J2 Fi Yq Jx Qh Ds Fw Fh Ye Dz Qd Vt Jq Vu Db Ft Vx Yw G7 V4 Qw Fy Dv Fq Fa Dt J9 Q6 J3 J7 Q7 Q9 Vy Jo Qq Jn Qe Yt Vz Jw Jf Dy Dr Ve Fl Qf G0 Yn Dh Dl Vk Fc Fb Gz Dd Qk Y0 F7 Qc Y5 Qi Qo Gq Gi J4 Yu Ff D1 V3 Gv F3 Yh F5 Fr Gm G1 J8 Vb G4 Y7 Gk Qp Jc F8 Y9 Fd Fe Yj Dg Vp Df V5 Dn Gs Yx Fm Ga Qg Fn Di Vs D2 Gl G8 Vq Qy Gx Jz Q8 V0 Yi Y3 Y8 F0 J5 G2 Yk Yl Qj Dp Qr Qz G9 Fz Dx J6 Yo V1 Ja Ju Gw Fu Y4 V7 Q5 Gp F6 Dq Qs Gj Jj G3 Ql Gr Da Yy Gg Jp Fp Vr Du Yb Gh Jr Yz Qv Fv Dj Yp Vd Vj Vv Jt Gy Jm Vm Fo Yd Vw Jh Gc F9 Qb Vg Q0 F1 Q1 Js Q4 Q3 Qu Qm Y2 V9 Jl Dw G6 G5 Fs F4 Gd Jk
  obtain⟨rfl,rfl⟩:=hR
  obtain rfl:i=es0.length:=by simpa using hi
  have hE:=HEND.out w tA wA tc wc A
  clear hd hi A HEND HWX HP
  simp(config:={maxSteps:=2000000}) only[lb4S,bodyS,lbS,restS,body6,Try.f6,Option.getD_some,fstC,sndC,inC] at hE⊢
  refine co_seq hZ hX ?_
  refine co_seq hZ hX ?_
  refine co_code hZ hX TT (by decide) (by kernel_rfl) (by kernel_rfl) fun K hKK u hu=> ?_
  go_wp2_with fail
  first|refine hKK.out _ _ (co_same hu ?_)|refine⟨by trivial,by trivial,hKK.out _ _ (co_same hu ?_)⟩
  clear hKK K hu
  refine co_cond (t:=false) hZ hX (by simp[Act.eval]) ?_
  simp only[Bool.false_eq_true,↓reduceIte]
  refine co_exit hZ hX rfl ?_
  exact hE _ _ _ _ _ _ _ _ _ _ _ _ _ _ _ _ _ _ _ _ _ _ _ _ _ _ _ _ _ _ _ _ _ _ _ _ _ _ _ _ _ _ _ _ _ _ _ _ _ _ _ _ _ _ _ _ _ _ _ _ _ _ _ _ _ _ _ _ _ _ _ _ _ _ _ _ _ _ _ _ _ _ _ _ _ _ _ _ _ _ _ _ _ _ _ _ _ _ _ _ _ _ _ _ _ _ _ _ _ _ _ _ _ _ _ _ _ _ _ _ _ _ _ _ _ _ _ _ _ _ _ _ _ _ _ _ _ _ _ _ _ _ _ _ _ _ _ _ _ _ _ _ _ _ _ _ _ _ _ _ _ _ _ _ _ _ _ _ _ _ _ _ _ _ _ _ _ _ _ _ _ _ _ _ _ _ _ _ _ _ _ _ _ _ _ _ _ _ _ _ _ _ _ _ _ _ _ _ _ _ _ _ _ _ _ _ _ _ _ _ _ _ _ _ _ _ _ _ _ _ _ _ _ _ _ _ _ _ _ _ _ _
 |cons e es ih=>
  intro i hd hi w T W tA wA tc wc hR hT A J1 Vh Je Ji Yr D4 D3 Y6 Qx Ya Jd Yf Dk Vf Yg Fg J0 Vo Dc Qn D0 Jb Vl Jg Fj Gu Ym Qt Vc Jv Gn Yv Vn Dm F2 Fk Vi Y1 Va Gf Yc Qa Jy V8 V6 Q2 Gb Ys V2 J2 Fi Yq Jx Qh Ds Fw Fh Ye Dz Qd Vt Jq Vu Db Ft Vx Yw G7 V4 Qw Fy Dv Fq Fa Dt J9 Q6 J3 J7 Q7 Q9 Vy Jo Qq Jn Qe Yt Vz Jw Jf Dy Dr Ve Fl Qf G0 Yn Dh Dl Vk Fc Fb Gz Dd Qk Y0 F7 Qc Y5 Qi Qo Gq Gi J4 Yu Ff D1 V3 Gv F3 Yh F5 Fr Gm G1 J8 Vb G4 Y7 Gk Qp Jc F8 Y9 Fd Fe Yj Dg Vp Df V5 Dn Gs Yx Fm Ga Qg Fn Di Vs D2 Gl G8 Vq Qy Gx Jz Q8 V0 Yi Y3 Y8 F0 J5 G2 Yk Yl Qj Dp Qr Qz G9 Fz Dx J6 Yo V1 Ja Ju Gw Fu Y4 V7 Q5 Gp F6 Dq Qs Gj Jj G3 Ql Gr Da Yy Gg Jp Fp Vr Du Yb Gh Jr Yz Qv Fv Dj Yp Vd Vj Vv Jt Gy Jm Vm Fo Yd Vw Jh Gc F9 Qb Vg Q0 F1 Q1 Js Q4 Q3 Qu Qm Y2 V9 Jl Dw G6 G5 Fs F4 Gd Jk
  obtain⟨k,T1,W1,hE,hR⟩:=hR
  have hie:es0[i]?=some e:=by
   have h1:(es0.drop i)[0]?=some e:=by rw[hd];rfl
   rwa[List.getElem?_drop,Nat.add_zero] at h1
  have hil:i<es0.length:=(List.getElem?_eq_some_iff.1 hie).1
  have hlen0:i+1+es.length=es0.length:=by simp at hi;omega
  have hd1:es0.drop (i+1)=es:=by rw[←List.drop_drop,hd];rfl
  obtain⟨gb,go,gc,rb,ro,rc,ub,uo,uc,nb,no,nc,hEA⟩:=ent_at HWX.out hie
  obtain⟨lb,lo,lc',lcs,el,_,_,l1,l2,l3⟩:=sl_box A.lg (i:=i) (x:=e.tn) (by rw[List.getElem?_map,hie];rfl)
  rw[List.length_map] at el
  cases el
  have l2:lcs=e.tn.cells:=l2
  subst l2
  have hkT:k<T.length:=(List.getElem?_eq_some_iff.1 hE.given).1
  have hTW:T.length=W.length:=hE.len
  obtain⟨tb,ht0⟩:=A.t.box (fun e=>by rw[e] at hkT;simp at hkT)
  obtain⟨wb,hw0⟩:=A.w.box (fun e=>by rw[e] at hTW;rw[hTW] at hkT;simp at hkT)
  subst ht0 hw0
  obtain⟨_,_,eT,t1,t2,_⟩:=A.t.form
  cases eT
  obtain⟨_,_,eW,w1,w2,_⟩:=A.w.form
  cases eW
  have hkW:k<W.length:=by omega
  have HA:=Hd.mk A
  have HEA:=Hd.mk hEA
  have IH:=Hd.mk ih
  have HR:=Hd.mk hR
  have g1:T[k]=e.given:=by have:=hE.given;rw[List.getElem?_eq_getElem hkT] at this;exact Option.some.inj this
  have g2:W[k]=e.tn.wait:=by have:=hE.wait;rw[List.getElem?_eq_getElem hkW] at this;exact Option.some.inj this
  obtain⟨tcs,h1,h2,_⟩:=A.t.cell_ hkT
  have h1:tcs=T[k].cells:=h1
  rw[g1] at h1
  subst h1
  obtain⟨wcs,y1,y2,_⟩:=A.w.cell_ hkW
  have y1:wcs=W[k].cells:=y1
  rw[g2] at y1
  subst y1
  have l0:=l3 0 _ rfl
  have l11:=l3 1 _ rfl
  have l12:=l3 2 _ rfl
  have l13:=l3 3 _ rfl
  have l14:=l3 4 _ rfl
  have a0:=h2 0 _ rfl
  have a1:=h2 1 _ rfl
  have a2:=h2 2 _ rfl
  have a3:=h2 3 _ rfl
  have a4:=h2 4 _ rfl
  have a5:=h2 5 _ rfl
  have a6:=h2 6 _ rfl
  have b0:=y2 0 _ rfl
  have b1:=y2 1 _ rfl
  have b2:=y2 2 _ rfl
  have kp:=A.kp
  have c9:=kp.cell hEA.g hEA.lt
  have c0:=kp.cell (hEA.ga 0 _ rfl) hEA.glt
  have c1:=kp.cell (hEA.ga 1 _ rfl) hEA.glt
  have c2:=kp.cell (hEA.ga 2 _ rfl) hEA.glt
  have c3:=kp.cell (hEA.ga 3 _ rfl) hEA.glt
  have c4:=kp.cell (hEA.ga 4 _ rfl) hEA.glt
  have c5:=kp.cell (hEA.ga 5 _ rfl) hEA.glt
  have c6:=kp.cell (hEA.ga 6 _ rfl) hEA.glt
  simp only[tnR,tkR,waR,Nat.add_zero] at l0 l11 l12 l13 l14 a0 a1 a2 a3 a4 a5 a6 b0 b1 b2 c0
  rw[hE.task] at l0
  have hk2:=hE.kind
  have ham:=hE.among
  have HE:=Hd.mk hE
  clear l3 h2 y2 g1 g2 kp A hEA ih hR hE HEND HWX hie hd hi
  have hlen1:i+1+es.length=es0.length:=hlen0
  have hnext:∀(a':Act) (y:World),EvA a' 249 [(2,.pointer (some ⟨q,0,none⟩)),(4,.bool false),(5,.pointer (some ⟨s,0,none⟩)),(6,.pointer (some ⟨b,0,none⟩)),(7,.slice (some ⟨lb,lo,none⟩) es0.length lc),(9,.slice (some ⟨tb,0,none⟩) T.length tc),(10,.slice (some ⟨wb,0,none⟩) W.length wc),(12,.int .i64 (i:Int)),(13,.int .i64 (k:Int))]→StA v2 y (.slice (some ⟨lb,lo,none⟩) es0.length lc) (.slice (some ⟨tb,0,none⟩) T.length tc) (.slice (some ⟨wb,0,none⟩) W.length wc) (es0.map (·.tn)) (T.set k e.ret) (W.set k e.wait)→Co Try.prog Z 0 X (G ((Go.Conc.base 6).at a' [.code (sndC (sndC (sndC bodyS))),.inBlock 3,.code (sndC (sndC lbS)),.inLoop lbS,.inBlock 2,.code (sndC restS)]) []) y:=by
   clear l0 l11 l12 l13 l14 a0 a1 a2 a3 a4 a5 a6 b0 b1 b2 c9 c0 c1 c2 c3 c4 c5 c6 hk2 ham
   intro a' y E' A'
   refine act249 (C:=fun a=>Co Try.prog Z 0 X (G ((Go.Conc.base 6).at a _) []) y) E' (fun J1 Vh Je Ji Yr D3 Y6 Qx Ya Jd Yf Dk Vf Yg Fg J0 Vo Dc Qn D0 Jb Vl Jg Fj Gu Ym Qt Vc Jv Gn Yv Vn Dm F2 Fk Vi Y1 Va Gf Yc Qa Jy V8 V6 Q2 Gb Ys V2 J2 Fi Yq Jx Qh Ds Fw Fh Ye Dz Qd Vt Jq Vu Db Ft Vx Yw G7 V4 Qw Fy Dv Fq Fa Dt J9 Q6 J3 J7 Q7 Q9 Vy Jo Qq Jn Qe Yt Vz Jw Jf Dy Dr Ve Fl Qf G0 Yn Dh Dl Vk Fc Fb Gz Dd Qk Y0 F7 Qc Y5 Qi Qo Gq Gi J4 Yu Ff D1 V3 Gv F3 Yh F5 Fr Gm G1 J8 Vb G4 Y7 Gk Qp Jc F8 Y9 Fd Fe Yj Dg Vp Df V5 Dn Gs Yx Fm Ga Qg Fn Di Vs D2 Gl G8 Vq Qy Gx Jz Q8 V0 Yi Y3 Y8 F0 J5 G2 Yk Yl Qj Dp Qr Qz G9 Fz Dx J6 Yo V1 Ja Ju Gw Fu Y4 V7 Q5 Gp F6 Dq Qs Gj Jj G3 Ql Gr Da Yy Gg Jp Fp Vr Du Yb Gh Jr Yz Qv Fv Dj Yp Vd Vj Vv Jt Gy Jm Vm Fo Yd Vw Jh Gc F9 Qb Vg Q0 F1 Q1 Js Q4 Q3 Qu Qm Y2 V9 Jl Dw G6 G5 Fs F4 Gd Jk=> ?_)
   clear E'
   have hl1:(T.set k e.ret).length=T.length:=by simp
   have hl2:(W.set k e.wait).length=W.length:=by simp
   rw[←hl1,←hl2] at A'
   have hbeg:∀(y:World) (T2:List Tk) (W2:List Wa) (tA2 wA2:Option Addr) (tc2 wc2 n:Nat),StA v2 y (.slice (some ⟨lb,lo,none⟩) es0.length lc) (.slice tA2 T2.length tc2) (.slice wA2 W2.length wc2) (es0.map (·.tn)) T2 W2→T2.length≤200→RpOk ks es T2 W2 Tf Wf→(e.beg≤(n:Int)∨200≤T2.length)→∀(J1 Vh Je Ji Yr Y6 Qx Ya Jd Yf Dk Vf Yg Fg J0 Vo Dc Qn D0 Jb Vl Jg Fj Gu Ym Qt Vc Jv Gn Yv Vn Dm F2 Fk Vi Y1 Va Gf Yc Qa Jy V8 V6 Q2 Gb Ys V2 J2 Fi Yq Jx Qh Ds Fw Fh Ye Dz Qd Vt Jq Vu Db Ft Vx Yw G7 V4 Qw Fy Dv Fq Fa Dt J9 Q6 J3 J7 Q7 Q9 Vy Jo Qq Jn Qe Yt Vz Jw Jf Dy Dr Ve Fl Qf G0 Yn Dh Dl Vk Fc Fb Gz Dd Qk Y0 F7 Qc Y5 Qi Qo Gq Gi J4 Yu Ff D1 V3 Gv F3 Yh F5 Fr Gm G1 J8 Vb G4 Y7 Gk Qp Jc F8 Y9 Fd Fe Yj Dg Vp Df V5 Dn Gs Yx Fm Ga Qg Fn Di Vs D2 Gl G8 Vq Qy Gx Jz Q8 V0 Yi Y3 Y8 F0 J5 G2 Yk Yl Qj Dp Qr Qz G9 Fz Dx J6 Yo V1 Ja Ju Gw Fu Y4 V7 Q5 Gp F6 Dq Qs Gj Jj G3 Ql Gr Da Yy Gg Jp Fp Vr Du Yb Gh Jr Yz Qv Fv Dj Yp Vd Vj Vv Jt Gy Jm Vm Fo Yd Vw Jh Gc F9 Qb Vg Q0 F1 Q1 Js Q4 Q3 Qu Qm Y2 V9 Jl Dw G6 G5 Fs F4 Gd Jk:Value),Co Try.prog Z 0 X (G ((Go.Conc.base 6).at ⟨#[J1,Vh,.pointer (some ⟨q,0,none⟩),Je,.bool false,.pointer (some ⟨s,0,none⟩),.pointer (some ⟨b,0,none⟩),.slice (some ⟨lb,lo,none⟩) es0.length lc,Ji,.slice tA2 T2.length tc2,.slice wA2 W2.length wc2,Yr,.int .i64 (i:Int),.int .i64 (k:Int),.int .i64 (n:Int),Y6,Qx,Ya,Jd,Yf,Dk,Vf,Yg,Fg,J0,Vo,Dc,Qn,D0,Jb,Vl,Jg,Fj,Gu,Ym,Qt,Vc,Jv,Gn,Yv,Vn,Dm,F2,Fk,Vi,Y1,Va,Gf,Yc,Qa,Jy,V8,V6,Q2,Gb,Ys,V2,J2,Fi,Yq,Jx,Qh,Ds,Fw,Fh,Ye,Dz,Qd,Vt,Jq,Vu,Db,Ft,Vx,Yw,G7,V4,Qw,Fy,Dv,Fq,Fa,Dt,J9,Q6,J3,J7,Q7,Q9,Vy,Jo,Qq,Jn,Qe,Yt,Vz,Jw,Jf,Dy,Dr,Ve,Fl,Qf,G0,Yn,Dh,Dl,Vk,Fc,Fb,Gz,Dd,Qk,Y0,F7,Qc,Y5,Qi,Qo,Gq,Gi,J4,Yu,Ff,D1,V3,Gv,F3,Yh,F5,Fr,Gm,G1,J8,Vb,G4,Y7,Gk,Qp,Jc,F8,Y9,Fd,Fe,Yj,Dg,Vp,Df,V5,Dn,Gs,Yx,Fm,Ga,Qg,Fn,Di,Vs,D2,Gl,G8,Vq,Qy,Gx,Jz,Q8,V0,Yi,Y3,Y8,F0,J5,G2,Yk,Yl,Qj,Dp,Qr,Qz,G9,Fz,Dx,J6,Yo,V1,Ja,Ju,Gw,Fu,Y4,V7,Q5,Gp,F6,Dq,Qs,Gj,Jj,G3,Ql,Gr,Da,Yy,Gg,Jp,Fp,Vr,Du,Yb,Gh,Jr,Yz,Qv,Fv,Dj,Yp,Vd,Vj,Vv,Jt,Gy,Jm,Vm,Fo,Yd,Vw,Jh,Gc,F9,Qb,Vg,Q0,F1,Q1,Js,Q4,Q3,Qu,Qm,Y2,V9,Jl,Dw,G6,G5,Fs,F4,Gd,Jk],[]⟩ [.code lb4S,.inLoop lb4S,.inBlock 4,.inBlock 3,.code (sndC (sndC lbS)),.inLoop lbS,.inBlock 2,.code (sndC restS)]) []) y:=by
    intro y T2 W2 tA2 wA2 tc2 wc2 n A2 hT2 hR2 ht J1 Vh Je Ji Yr Y6 Qx Ya Jd Yf Dk Vf Yg Fg J0 Vo Dc Qn D0 Jb Vl Jg Fj Gu Ym Qt Vc Jv Gn Yv Vn Dm F2 Fk Vi Y1 Va Gf Yc Qa Jy V8 V6 Q2 Gb Ys V2 J2 Fi Yq Jx Qh Ds Fw Fh Ye Dz Qd Vt Jq Vu Db Ft Vx Yw G7 V4 Qw Fy Dv Fq Fa Dt J9 Q6 J3 J7 Q7 Q9 Vy Jo Qq Jn Qe Yt Vz Jw Jf Dy Dr Ve Fl Qf G0 Yn Dh Dl Vk Fc Fb Gz Dd Qk Y0 F7 Qc Y5 Qi Qo Gq Gi J4 Yu Ff D1 V3 Gv F3 Yh F5 Fr Gm G1 J8 Vb G4 Y7 Gk Qp Jc F8 Y9 Fd Fe Yj Dg Vp Df V5 Dn Gs Yx Fm Ga Qg Fn Di Vs D2 Gl G8 Vq Qy Gx Jz Q8 V0 Yi Y3 Y8 F0 J5 G2 Yk Yl Qj Dp Qr Qz G9 Fz Dx J6 Yo V1 Ja Ju Gw Fu Y4 V7 Q5 Gp F6 Dq Qs Gj Jj G3 Ql Gr Da Yy Gg Jp Fp Vr Du Yb Gh Jr Yz Qv Fv Dj Yp Vd Vj Vv Jt Gy Jm Vm Fo Yd Vw Jh Gc F9 Qb Vg Q0 F1 Q1 Js Q4 Q3 Qu Qm Y2 V9 Jl Dw G6 G5 Fs F4 Gd Jk
    exact fin4_co hZ hX HEA.out ht hT2 hn0 A2 (fun J1 Vh Je Ji Yr D4 D3 Y6 Qx Ya Jd Yf Dk Vf Yg Fg J0 Vo Dc Qn D0 Jb Vl Jg Fj Gu Ym Qt Vc Jv Gn Yv Vn Dm F2 Fk Vi Y1 Va Gf Yc Qa Jy V8 V6 Q2 Gb Ys V2 J2 Fi Yq Jx Qh Ds Fw Fh Ye Dz Qd Vt Jq Vu Db Ft Vx Yw G7 V4 Qw Fy Dv Fq Fa Dt J9 Q6 J3 J7 Q7 Q9 Vy Jo Qq Jn Qe Yt Vz Jw Jf Dy Dr Ve Fl Qf G0 Yn Dh Dl Vk Fc Fb Gz Dd Qk Y0 F7 Qc Y5 Qi Qo Gq Gi J4 Yu Ff D1 V3 Gv F3 Yh F5 Fr Gm G1 J8 Vb G4 Y7 Gk Qp Jc F8 Y9 Fd Fe Yj Dg Vp Df V5 Dn Gs Yx Fm Ga Qg Fn Di Vs D2 Gl G8 Vq Qy Gx Jz Q8 V0 Yi Y3 Y8 F0 J5 G2 Yk Yl Qj Dp Qr Qz G9 Fz Dx J6 Yo V1 Ja Ju Gw Fu Y4 V7 Q5 Gp F6 Dq Qs Gj Jj G3 Ql Gr Da Yy Gg Jp Fp Vr Du Yb Gh Jr Yz Qv Fv Dj Yp Vd Vj Vv Jt Gy Jm Vm Fo Yd Vw Jh Gc F9 Qb Vg Q0 F1 Q1 Js Q4 Q3 Qu Qm Y2 V9 Jl Dw G6 G5 Fs F4 Gd Jk=>IH.out (i+1) hd1 hlen1 hR2 hT2 A2 _ _ _ _ _ _ _ _ _ _ _ _ _ _ _ _ _ _ _ _ _ _ _ _ _ _ _ _ _ _ _ _ _ _ _ _ _ _ _ _ _ _ _ _ _ _ _ _ _ _ _ _ _ _ _ _ _ _ _ _ _ _ _ _ _ _ _ _ _ _ _ _ _ _ _ _ _ _ _ _ _ _ _ _ _ _ _ _ _ _ _ _ _ _ _ _ _ _ _ _ _ _ _ _ _ _ _ _ _ _ _ _ _ _ _ _ _ _ _ _ _ _ _ _ _ _ _ _ _ _ _ _ _ _ _ _ _ _ _ _ _ _ _ _ _ _ _ _ _ _ _ _ _ _ _ _ _ _ _ _ _ _ _ _ _ _ _ _ _ _ _ _ _ _ _ _ _ _ _ _ _ _ _ _ _ _ _ _ _ _ _ _ _ _ _ _ _ _ _ _ _ _ _ _ _ _ _ _ _ _ _ _ _ _ _ _ _ _ _ _ _ _ _ _ _ _ _ _ _ _ _ _ _ _ _ _ _ _ _ _ _) _ _ _ _ _ _ _ _ _ _ _ _ _ _ _ _ _ _ _ _ _ _ _ _ _ _ _ _ _ _ _ _ _ _ _ _ _ _ _ _ _ _ _ _ _ _ _ _ _ _ _ _ _ _ _ _ _ _ _ _ _ _ _ _ _ _ _ _ _ _ _ _ _ _ _ _ _ _ _ _ _ _ _ _ _ _ _ _ _ _ _ _ _ _ _ _ _ _ _ _ _ _ _ _ _ _ _ _ _ _ _ _ _ _ _ _ _ _ _ _ _ _ _ _ _ _ _ _ _ _ _ _ _ _ _ _ _ _ _ _ _ _ _ _ _ _ _ _ _ _ _ _ _ _ _ _ _ _ _ _ _ _ _ _ _ _ _ _ _ _ _ _ _ _ _ _ _ _ _ _ _ _ _ _ _ _ _ _ _ _ _ _ _ _ _ _ _ _ _ _ _ _ _ _ _ _ _ _ _ _ _ _ _ _ _ _ _ _ _ _ _ _ _ _ _ _ _ _ _ _ _ _ _ _ _ _ _ _ _
   have hnx:=HE.out.next
   rcases hnx with⟨hb,hT1,hW1⟩|⟨hb,d,hd,hd1',hd2,hT1,hW1⟩
   ·rw[←hT1,←hW1] at A'
    have hl3:T1.length=T.length:=by rw[hT1];simp
    have h:=hbeg y T1 W1 _ _ _ _ 0 A' (by rw[hl3];exact hT) HR.out (.inl (by rw[hb];exact Int.le_refl _))
    have hw3:W1.length=W.length:=by rw[hW1];simp
    rw[hl3,hw3,show((0:Nat):Int)=0 from rfl] at h
    clear hbeg hTW A' hT1 hW1 HE IH HEA HR HA HP
    simp(config:={maxSteps:=2000000}) only[lb4S,bodyS,lbS,restS,body6,Try.f6,Option.getD_some,fstC,sndC,inC] at h⊢
    refine co_seq hZ hX ?_
    refine co_code hZ hX TT (by decide) (by kernel_rfl) (by kernel_rfl) fun K hKK u hu=> ?_
    go_wp2_with fail
    first|refine hKK.out _ _ (co_same hu ?_)|refine⟨by trivial,by trivial,hKK.out _ _ (co_same hu ?_)⟩
    clear hKK K hu
    refine co_block hZ hX ?_
    refine co_loop hZ hX ?_
    exact h _ _ _ _ _ _ _ _ _ _ _ _ _ _ _ _ _ _ _ _ _ _ _ _ _ _ _ _ _ _ _ _ _ _ _ _ _ _ _ _ _ _ _ _ _ _ _ _ _ _ _ _ _ _ _ _ _ _ _ _ _ _ _ _ _ _ _ _ _ _ _ _ _ _ _ _ _ _ _ _ _ _ _ _ _ _ _ _ _ _ _ _ _ _ _ _ _ _ _ _ _ _ _ _ _ _ _ _ _ _ _ _ _ _ _ _ _ _ _ _ _ _ _ _ _ _ _ _ _ _ _ _ _ _ _ _ _ _ _ _ _ _ _ _ _ _ _ _ _ _ _ _ _ _ _ _ _ _ _ _ _ _ _ _ _ _ _ _ _ _ _ _ _ _ _ _ _ _ _ _ _ _ _ _ _ _ _ _ _ _ _ _ _ _ _ _ _ _ _ _ _ _ _ _ _ _ _ _ _ _ _ _ _ _ _ _ _ _ _ _ _ _ _ _ _ _ _ _ _ _ _ _ _ _ _ _ _ _ _
   ·by_cases hl:T.length<200
    ·have hT2:T1=T.set k e.ret++[⟨(T.length:Int)+1,d.beg%12-1,0,(k:Int)+1,0,0,0⟩]:=by rw[hT1];unfold newTs;rw[if_pos hl]
     have hW2:W1=W.set k e.wait++[⟨0,0,0⟩]:=by rw[hW1];unfold newWs;rw[if_pos hl]
     have hl3:T1.length=T.length+1:=by rw[hT2];simp
     have hw3:W1.length=W.length+1:=by rw[hW2];simp
     have hg:∀(y2:World) (tA2 wA2:Option Addr) (tc2 wc2:Nat),StA v2 y2 (.slice (some ⟨lb,lo,none⟩) es0.length lc) (.slice tA2 (T.length+1) tc2) (.slice wA2 (W.length+1) wc2) (es0.map (·.tn)) T1 W1→∀(J1 Vh Je Ji Yr Y6 Qx Ya Jd Yf Dk Vf Yg Fg J0 Vo Dc Qn D0 Jb Vl Jg Fj Gu Ym Qt Vc Jv Gn Yv Vn Dm F2 Fk Vi Y1 Va Gf Yc Qa Jy V8 V6 Q2 Gb Ys V2 J2 Fi Yq Jx Qh Ds Fw Fh Ye Dz Qd Vt Jq Vu Db Ft Vx Yw G7 V4 Qw Fy Dv Fq Fa Dt J9 Q6 J3 J7 Q7 Q9 Vy Jo Qq Jn Qe Yt Vz Jw Jf Dy Dr Ve Fl Qf G0 Yn Dh Dl Vk Fc Fb Gz Dd Qk Y0 F7 Qc Y5 Qi Qo Gq Gi J4 Yu Ff D1 V3 Gv F3 Yh F5 Fr Gm G1 J8 Vb G4 Y7 Gk Qp Jc F8 Y9 Fd Fe Yj Dg Vp Df V5 Dn Gs Yx Fm Ga Qg Fn Di Vs D2 Gl G8 Vq Qy Gx Jz Q8 V0 Yi Y3 Y8 F0 J5 G2 Yk Yl Qj Dp Qr Qz G9 Fz Dx J6 Yo V1 Ja Ju Gw Fu Y4 V7 Q5 Gp F6 Dq Qs Gj Jj G3 Ql Gr Da Yy Gg Jp Fp Vr Du Yb Gh Jr Yz Qv Fv Dj Yp Vd Vj Vv Jt Gy Jm Vm Fo Yd Vw Jh Gc F9 Qb Vg Q0 F1 Q1 Js Q4 Q3 Qu Qm Y2 V9 Jl Dw G6 G5 Fs F4 Gd Jk:Value),Co Try.prog Z 0 X (G ((Go.Conc.base 6).at ⟨#[J1,Vh,.pointer (some ⟨q,0,none⟩),Je,.bool false,.pointer (some ⟨s,0,none⟩),.pointer (some ⟨b,0,none⟩),.slice (some ⟨lb,lo,none⟩) es0.length lc,Ji,.slice tA2 (T.length+1) tc2,.slice wA2 (W.length+1) wc2,Yr,.int .i64 (i:Int),.int .i64 (k:Int),.int .i64 0,Y6,Qx,Ya,Jd,Yf,Dk,Vf,Yg,Fg,J0,Vo,Dc,Qn,D0,Jb,Vl,Jg,Fj,Gu,Ym,Qt,Vc,Jv,Gn,Yv,Vn,Dm,F2,Fk,Vi,Y1,Va,Gf,Yc,Qa,Jy,V8,V6,Q2,Gb,Ys,V2,J2,Fi,Yq,Jx,Qh,Ds,Fw,Fh,Ye,Dz,Qd,Vt,Jq,Vu,Db,Ft,Vx,Yw,G7,V4,Qw,Fy,Dv,Fq,Fa,Dt,J9,Q6,J3,J7,Q7,Q9,Vy,Jo,Qq,Jn,Qe,Yt,Vz,Jw,Jf,Dy,Dr,Ve,Fl,Qf,G0,Yn,Dh,Dl,Vk,Fc,Fb,Gz,Dd,Qk,Y0,F7,Qc,Y5,Qi,Qo,Gq,Gi,J4,Yu,Ff,D1,V3,Gv,F3,Yh,F5,Fr,Gm,G1,J8,Vb,G4,Y7,Gk,Qp,Jc,F8,Y9,Fd,Fe,Yj,Dg,Vp,Df,V5,Dn,Gs,Yx,Fm,Ga,Qg,Fn,Di,Vs,D2,Gl,G8,Vq,Qy,Gx,Jz,Q8,V0,Yi,Y3,Y8,F0,J5,G2,Yk,Yl,Qj,Dp,Qr,Qz,G9,Fz,Dx,J6,Yo,V1,Ja,Ju,Gw,Fu,Y4,V7,Q5,Gp,F6,Dq,Qs,Gj,Jj,G3,Ql,Gr,Da,Yy,Gg,Jp,Fp,Vr,Du,Yb,Gh,Jr,Yz,Qv,Fv,Dj,Yp,Vd,Vj,Vv,Jt,Gy,Jm,Vm,Fo,Yd,Vw,Jh,Gc,F9,Qb,Vg,Q0,F1,Q1,Js,Q4,Q3,Qu,Qm,Y2,V9,Jl,Dw,G6,G5,Fs,F4,Gd,Jk],[]⟩ [.code (sndC (sndC lb4S)),.inLoop lb4S,.inBlock 4,.inBlock 3,.code (sndC (sndC lbS)),.inLoop lbS,.inBlock 2,.code (sndC restS)]) []) y2:=by
      intro y2 tA2 wA2 tc2 wc2 A2 J1 Vh Je Ji Yr Y6 Qx Ya Jd Yf Dk Vf Yg Fg J0 Vo Dc Qn D0 Jb Vl Jg Fj Gu Ym Qt Vc Jv Gn Yv Vn Dm F2 Fk Vi Y1 Va Gf Yc Qa Jy V8 V6 Q2 Gb Ys V2 J2 Fi Yq Jx Qh Ds Fw Fh Ye Dz Qd Vt Jq Vu Db Ft Vx Yw G7 V4 Qw Fy Dv Fq Fa Dt J9 Q6 J3 J7 Q7 Q9 Vy Jo Qq Jn Qe Yt Vz Jw Jf Dy Dr Ve Fl Qf G0 Yn Dh Dl Vk Fc Fb Gz Dd Qk Y0 F7 Qc Y5 Qi Qo Gq Gi J4 Yu Ff D1 V3 Gv F3 Yh F5 Fr Gm G1 J8 Vb G4 Y7 Gk Qp Jc F8 Y9 Fd Fe Yj Dg Vp Df V5 Dn Gs Yx Fm Ga Qg Fn Di Vs D2 Gl G8 Vq Qy Gx Jz Q8 V0 Yi Y3 Y8 F0 J5 G2 Yk Yl Qj Dp Qr Qz G9 Fz Dx J6 Yo V1 Ja Ju Gw Fu Y4 V7 Q5 Gp F6 Dq Qs Gj Jj G3 Ql Gr Da Yy Gg Jp Fp Vr Du Yb Gh Jr Yz Qv Fv Dj Yp Vd Vj Vv Jt Gy Jm Vm Fo Yd Vw Jh Gc F9 Qb Vg Q0 F1 Q1 Js Q4 Q3 Qu Qm Y2 V9 Jl Dw G6 G5 Fs F4 Gd Jk
      have h:=hbeg y2 T1 W1 tA2 wA2 tc2 wc2 1 (by rw[hl3,hw3];exact A2) (by rw[hl3];omega) HR.out (.inl (by rw[hb];exact Int.le_refl _))
      rw[hl3,hw3,show((1:Nat):Int)=1 from rfl] at h
      clear hbeg hTW A' hT1 hW1 hT2 hW2 HE IH HEA HR HA HP A2
      simp(config:={maxSteps:=2000000}) only[lb4S,bodyS,lbS,restS,body6,Try.f6,Option.getD_some,fstC,sndC,inC] at h⊢
      refine co_code hZ hX TT (by decide) (by kernel_rfl) (by kernel_rfl) fun K hKK u hu=> ?_
      go_wp2_with fail
      first|refine hKK.out _ _ (co_same hu ?_)|refine⟨by trivial,by trivial,hKK.out _ _ (co_same hu ?_)⟩
      clear hKK K hu
      refine co_inLoop hZ hX ?_
      exact h _ _ _ _ _ _ _ _ _ _ _ _ _ _ _ _ _ _ _ _ _ _ _ _ _ _ _ _ _ _ _ _ _ _ _ _ _ _ _ _ _ _ _ _ _ _ _ _ _ _ _ _ _ _ _ _ _ _ _ _ _ _ _ _ _ _ _ _ _ _ _ _ _ _ _ _ _ _ _ _ _ _ _ _ _ _ _ _ _ _ _ _ _ _ _ _ _ _ _ _ _ _ _ _ _ _ _ _ _ _ _ _ _ _ _ _ _ _ _ _ _ _ _ _ _ _ _ _ _ _ _ _ _ _ _ _ _ _ _ _ _ _ _ _ _ _ _ _ _ _ _ _ _ _ _ _ _ _ _ _ _ _ _ _ _ _ _ _ _ _ _ _ _ _ _ _ _ _ _ _ _ _ _ _ _ _ _ _ _ _ _ _ _ _ _ _ _ _ _ _ _ _ _ _ _ _ _ _ _ _ _ _ _ _ _ _ _ _ _ _ _ _ _ _ _ _ _ _ _ _ _ _ _ _ _ _ _ _ _
     rw[hl1,hl2] at A'
     have hgr:=grow_co (k:=k) (T:=T.set k e.ret) (W:=W.set k e.wait) (kk:=[.code (sndC (sndC lb4S)),.inLoop lb4S,.inBlock 4,.inBlock 3,.code (sndC (sndC lbS)),.inLoop lbS,.inBlock 2,.code (sndC restS)]) hZ hX HEA.out HP.out hd hd1' hd2 (by rw[hl1];exact hl) (by rw[hl2];omega) (by omega) (by rw[hl1,hl2];exact A') (fun y2 tA2 wA2 tc2 wc2 A2 J1 Vh Je Ji Yr Y6 Qx Ya Jd Yf Dk Vf Yg Fg J0 Vo Dc Qn D0 Jb Vl Jg Fj Gu Ym Qt Vc Jv Gn Yv Vn Dm F2 Fk Vi Y1 Va Gf Yc Qa Jy V8 V6 Q2 Gb Ys V2 J2 Fi Yq Jx Qh Ds Fw Fh Ye Dz Qd Vt Jq Vu Db Ft Vx Yw G7 V4 Qw Fy Dv Fq Fa Dt J9 Q6 J3 J7 Q7 Q9 Vy Jo Qq Jn Qe Yt Vz Jw Jf Dy Dr Ve Fl Qf G0 Yn Dh Dl Vk Fc Fb Gz Dd Qk Y0 F7 Qc Y5 Qi Qo Gq Gi J4 Yu Ff D1 V3 Gv F3 Yh F5 Fr Gm G1 J8 Vb G4 Y7 Gk Qp Jc F8 Y9 Fd Fe Yj Dg Vp Df V5 Dn Gs Yx Fm Ga Qg Fn Di Vs D2 Gl G8 Vq Qy Gx Jz Q8 V0 Yi Y3 Y8 F0 J5 G2 Yk Yl Qj Dp Qr Qz G9 Fz Dx J6 Yo V1 Ja Ju Gw Fu Y4 V7 Q5 Gp F6 Dq Qs Gj Jj G3 Ql Gr Da Yy Gg Jp Fp Vr Du Yb Gh Jr Yz Qv Fv Dj Yp Vd Vj Vv Jt Gy Jm Vm Fo Yd Vw Jh Gc F9 Qb Vg Q0 F1 Q1 Js Q4 Q3 Qu Qm Y2 V9 Jl Dw G6 G5 Fs F4 Gd Jk=>by
      rw[hl1,hl2] at A2⊢
      rw[←hT2,←hW2] at A2
      exact hg y2 tA2 wA2 tc2 wc2 A2 _ _ _ _ _ _ _ _ _ _ _ _ _ _ _ _ _ _ _ _ _ _ _ _ _ _ _ _ _ _ _ _ _ _ _ _ _ _ _ _ _ _ _ _ _ _ _ _ _ _ _ _ _ _ _ _ _ _ _ _ _ _ _ _ _ _ _ _ _ _ _ _ _ _ _ _ _ _ _ _ _ _ _ _ _ _ _ _ _ _ _ _ _ _ _ _ _ _ _ _ _ _ _ _ _ _ _ _ _ _ _ _ _ _ _ _ _ _ _ _ _ _ _ _ _ _ _ _ _ _ _ _ _ _ _ _ _ _ _ _ _ _ _ _ _ _ _ _ _ _ _ _ _ _ _ _ _ _ _ _ _ _ _ _ _ _ _ _ _ _ _ _ _ _ _ _ _ _ _ _ _ _ _ _ _ _ _ _ _ _ _ _ _ _ _ _ _ _ _ _ _ _ _ _ _ _ _ _ _ _ _ _ _ _ _ _ _ _ _ _ _ _ _ _ _ _ _ _ _ _ _ _ _ _ _ _ _ _ _)
     rw[hl1,hl2] at hgr
     have h12:=A'.kp.cell HEA.out.n HEA.out.lt
     have hnn:=A'.kp.cell (HEA.out.na 0 _ rfl) HEA.out.nlt
     simp only[Nat.add_zero] at hnn
     rw[hb] at hnn
     clear hbeg hg hTW A' hT1 hW1 hT2 hW2 HE IH HEA HR HA HP
     simp(config:={maxSteps:=2000000}) only[lb4S,bodyS,lbS,restS,body6,Try.f6,Option.getD_some,fstC,sndC,inC] at hgr⊢
     refine co_seq hZ hX ?_
     refine co_code hZ hX TT (by decide) (by kernel_rfl) (by kernel_rfl) fun K hKK u hu=> ?_
     go_wp2_with fail
     first|refine hKK.out _ _ (co_same hu ?_)|refine⟨by trivial,by trivial,hKK.out _ _ (co_same hu ?_)⟩
     clear hKK K hu
     refine co_block hZ hX ?_
     refine co_loop hZ hX ?_
     refine co_seq hZ hX ?_
     refine co_seq hZ hX ?_
     refine co_code hZ hX TT (by decide) (by kernel_rfl) (by kernel_rfl) fun K hKK u hu=> ?_
     have d0:=u_cell hu h12
     have d1:=u_cell hu hnn
     have hl4:(T.length:Int)<200:=by omega
     suffices hM:∀(J1 Vh Je Ji Yr Y6 Qx Ya Jd Yf Dk Vf Yg Fg J0 Vo Dc Qn D0 Jb Vl Jg Fj Gu Ym Qt Vc Jv Gn Yv Vn Dm F2 Fk Vi Y1 Va Gf Yc Qa Jy V8 V6 Q2 Gb Ys V2 J2 Fi Yq Jx Qh Ds Fw Fh Ye Dz Qd Vt Jq Vu Db Ft Vx Yw G7 V4 Qw Fy Dv Fq Fa Dt J9 Q6 J3 J7 Q7 Q9 Vy Jo Qq Jn Qe Yt Vz Jw Jf Dy Dr Ve Fl Qf G0 Yn Dh Dl Vk Fc Fb Gz Dd Qk Y0 F7 Qc Y5 Qi Qo Gq Gi J4 Yu Ff D1 V3 Gv F3 Yh F5 Fr Gm G1 J8 Vb G4 Y7 Gk Qp Jc F8 Y9 Fd Fe Yj Dg Vp Df V5 Dn Gs Yx Fm Ga Qg Fn Di Vs Gl G8 Vq Qy Gx Jz Q8 V0 Yi Y3 Y8 F0 J5 G2 Yk Yl Qj Dp Qr Qz G9 Fz Dx J6 Yo V1 Ja Ju Gw Fu Y4 V7 Q5 Gp F6 Dq Qs Gj Jj G3 Ql Gr Da Yy Gg Jp Fp Vr Du Yb Gh Jr Yz Qv Fv Dj Yp Vd Vj Vv Jt Gy Jm Vm Fo Yd Vw Jh Gc F9 Qb Vg Q0 F1 Q1 Js Q4 Q3 Qu Qm Y2 V9 Jl Dw G6 G5 Fs F4 Gd Jk:Value),K #[J1,Vh,.pointer (some ⟨q,0,none⟩),Je,.bool false,.pointer (some ⟨s,0,none⟩),.pointer (some ⟨b,0,none⟩),.slice (some ⟨lb,lo,none⟩) es0.length lc,Ji,.slice (some ⟨tb,0,none⟩) T.length tc,.slice (some ⟨wb,0,none⟩) W.length wc,Yr,.int .i64 (i:Int),.int .i64 (k:Int),.int .i64 0,Y6,Qx,Ya,Jd,Yf,Dk,Vf,Yg,Fg,J0,Vo,Dc,Qn,D0,Jb,Vl,Jg,Fj,Gu,Ym,Qt,Vc,Jv,Gn,Yv,Vn,Dm,F2,Fk,Vi,Y1,Va,Gf,Yc,Qa,Jy,V8,V6,Q2,Gb,Ys,V2,J2,Fi,Yq,Jx,Qh,Ds,Fw,Fh,Ye,Dz,Qd,Vt,Jq,Vu,Db,Ft,Vx,Yw,G7,V4,Qw,Fy,Dv,Fq,Fa,Dt,J9,Q6,J3,J7,Q7,Q9,Vy,Jo,Qq,Jn,Qe,Yt,Vz,Jw,Jf,Dy,Dr,Ve,Fl,Qf,G0,Yn,Dh,Dl,Vk,Fc,Fb,Gz,Dd,Qk,Y0,F7,Qc,Y5,Qi,Qo,Gq,Gi,J4,Yu,Ff,D1,V3,Gv,F3,Yh,F5,Fr,Gm,G1,J8,Vb,G4,Y7,Gk,Qp,Jc,F8,Y9,Fd,Fe,Yj,Dg,Vp,Df,V5,Dn,Gs,Yx,Fm,Ga,Qg,Fn,Di,Vs,.bool true,Gl,G8,Vq,Qy,Gx,Jz,Q8,V0,Yi,Y3,Y8,F0,J5,G2,Yk,Yl,Qj,Dp,Qr,Qz,G9,Fz,Dx,J6,Yo,V1,Ja,Ju,Gw,Fu,Y4,V7,Q5,Gp,F6,Dq,Qs,Gj,Jj,G3,Ql,Gr,Da,Yy,Gg,Jp,Fp,Vr,Du,Yb,Gh,Jr,Yz,Qv,Fv,Dj,Yp,Vd,Vj,Vv,Jt,Gy,Jm,Vm,Fo,Yd,Vw,Jh,Gc,F9,Qb,Vg,Q0,F1,Q1,Js,Q4,Q3,Qu,Qm,Y2,V9,Jl,Dw,G6,G5,Fs,F4,Gd,Jk] u by
      go_wp2_with fail
      first|exact hM ..|exact⟨by trivial,by trivial,hM ..⟩
     intro J1 Vh Je Ji Yr Y6 Qx Ya Jd Yf Dk Vf Yg Fg J0 Vo Dc Qn D0 Jb Vl Jg Fj Gu Ym Qt Vc Jv Gn Yv Vn Dm F2 Fk Vi Y1 Va Gf Yc Qa Jy V8 V6 Q2 Gb Ys V2 J2 Fi Yq Jx Qh Ds Fw Fh Ye Dz Qd Vt Jq Vu Db Ft Vx Yw G7 V4 Qw Fy Dv Fq Fa Dt J9 Q6 J3 J7 Q7 Q9 Vy Jo Qq Jn Qe Yt Vz Jw Jf Dy Dr Ve Fl Qf G0 Yn Dh Dl Vk Fc Fb Gz Dd Qk Y0 F7 Qc Y5 Qi Qo Gq Gi J4 Yu Ff D1 V3 Gv F3 Yh F5 Fr Gm G1 J8 Vb G4 Y7 Gk Qp Jc F8 Y9 Fd Fe Yj Dg Vp Df V5 Dn Gs Yx Fm Ga Qg Fn Di Vs Gl G8 Vq Qy Gx Jz Q8 V0 Yi Y3 Y8 F0 J5 G2 Yk Yl Qj Dp Qr Qz G9 Fz Dx J6 Yo V1 Ja Ju Gw Fu Y4 V7 Q5 Gp F6 Dq Qs Gj Jj G3 Ql Gr Da Yy Gg Jp Fp Vr Du Yb Gh Jr Yz Qv Fv Dj Yp Vd Vj Vv Jt Gy Jm Vm Fo Yd Vw Jh Gc F9 Qb Vg Q0 F1 Q1 Js Q4 Q3 Qu Qm Y2 V9 Jl Dw G6 G5 Fs F4 Gd Jk
     refine hKK.out _ _ (co_same hu ?_)
     clear hKK K hu d0 d1 u h12 hnn
     refine co_cond (t:=true) hZ hX (by simp[Act.eval]) ?_
     simp only[↓reduceIte]
     refine co_skip hZ hX ?_
     refine co_seq hZ hX ?_
     exact hgr _ _ _ _ _ _ _ _ _ _ _ _ _ _ _ _ _ _ _ _ _ _ _ _ _ _ _ _ _ _ _ _ _ _ _ _ _ _ _ _ _ _ _ _ _ _ _ _ _ _ _ _ _ _ _ _ _ _ _ _ _ _ _ _ _ _ _ _ _ _ _ _ _ _ _ _ _ _ _ _ _ _ _ _ _ _ _ _ _ _ _ _ _ _ _ _ _ _ _ _ _ _ _ _ _ _ _ _ _ _ _ _ _ _ _ _ _ _ _ _ _ _ _ _ _ _ _ _ _ _ _ _ _ _ _ _ _ _ _ _ _ _ _ _ _ _ _ _ _ _ _ _ _ _ _ _ _ _ _ _ _ _ _ _ _ _ _ _ _ _ _ _ _ _ _ _ _ _ _ _ _ _ _ _ _ _ _ _ _ _ _ _ _ _ _ _ _ _ _ _ _ _ _ _ _ _ _ _ _ _ _ _ _ _ _ _ _ _ _ _ _ _ _ _ _ _ _ _ _ _ _ _ _ _ _ _ _ _ _
    ·have hT2:T1=T.set k e.ret:=by rw[hT1];unfold newTs;rw[if_neg hl];simp
     have hW2:W1=W.set k e.wait:=by rw[hW1];unfold newWs;rw[if_neg hl];simp
     rw[←hT2,←hW2] at A'
     have hl3:T1.length=T.length:=by rw[hT2];simp
     have h:=hbeg y T1 W1 _ _ _ _ 0 A' (by rw[hl3];exact hT) HR.out (.inr (by rw[hl3];omega))
     have hw3:W1.length=W.length:=by rw[hW2];simp
     rw[hl3,hw3,show((0:Nat):Int)=0 from rfl] at h
     clear hbeg hTW A' hT1 hW1 hT2 hW2 HE IH HEA HR HA HP
     simp(config:={maxSteps:=2000000}) only[lb4S,bodyS,lbS,restS,body6,Try.f6,Option.getD_some,fstC,sndC,inC] at h⊢
     refine co_seq hZ hX ?_
     refine co_code hZ hX TT (by decide) (by kernel_rfl) (by kernel_rfl) fun K hKK u hu=> ?_
     go_wp2_with fail
     first|refine hKK.out _ _ (co_same hu ?_)|refine⟨by trivial,by trivial,hKK.out _ _ (co_same hu ?_)⟩
     clear hKK K hu
     refine co_block hZ hX ?_
     refine co_loop hZ hX ?_
     exact h _ _ _ _ _ _ _ _ _ _ _ _ _ _ _ _ _ _ _ _ _ _ _ _ _ _ _ _ _ _ _ _ _ _ _ _ _ _ _ _ _ _ _ _ _ _ _ _ _ _ _ _ _ _ _ _ _ _ _ _ _ _ _ _ _ _ _ _ _ _ _ _ _ _ _ _ _ _ _ _ _ _ _ _ _ _ _ _ _ _ _ _ _ _ _ _ _ _ _ _ _ _ _ _ _ _ _ _ _ _ _ _ _ _ _ _ _ _ _ _ _ _ _ _ _ _ _ _ _ _ _ _ _ _ _ _ _ _ _ _ _ _ _ _ _ _ _ _ _ _ _ _ _ _ _ _ _ _ _ _ _ _ _ _ _ _ _ _ _ _ _ _ _ _ _ _ _ _ _ _ _ _ _ _ _ _ _ _ _ _ _ _ _ _ _ _ _ _ _ _ _ _ _ _ _ _ _ _ _ _ _ _ _ _ _ _ _ _ _ _ _ _ _ _ _ _ _ _ _ _ _ _ _ _ _ _ _ _ _
  have h19:∀(J1 Vh Je Ji Yr D3 Y6 Qx Ya Jd Yf Dk Vf Yg Fg J0 Vo Dc Qn D0 Jb Vl Jg Fj Gu Ym Qt Vc Jv Gn Yv Vn Dm F2 Fk Vi Y1 Va Gf Yc Qa Jy V8 V6 Q2 Gb Ys V2 J2 Fi Yq Jx Qh Ds Fw Fh Ye Dz Qd Vt Jq Vu Db Ft Vx Yw G7 V4 Qw Fy Dv Fq Fa Dt J9 Q6 J3 J7 Q7 Q9 Vy Jo Qq Jn Qe Yt Vz Jw Jf Dy Dr Ve Fl Qf G0 Yn Dh Dl Vk Fc Fb Gz Dd Qk Y0 F7 Qc Y5 Qi Qo Gq Gi J4 Yu Ff D1 V3 Gv F3 Yh F5 Fr Gm G1 J8 Vb G4 Y7 Gk Qp Jc F8 Y9 Fd Fe Yj Dg Vp Df V5 Dn Gs Yx Fm Ga Qg Fn Di Vs D2 Gl G8 Vq Qy Gx Jz Q8 V0 Yi Y3 Y8 F0 J5 G2 Yk Yl Qj Dp Qr Qz G9 Fz Dx J6 Yo V1 Ja Ju Gw Fu Y4 V7 Q5 Gp F6 Dq Qs Gj Jj G3 Ql Gr Da Yy Gg Jp Fp Vr Du Yb Gh Jr Yz Qv Fv Dj Yp Vd Vj Vv Jt Gy Jm Vm Fo Yd Vw Jh Gc F9 Qb Vg Q0 F1 Q1 Js Q4 Q3 Qu Qm Y2 V9 Jl Dw G6 G5 Fs F4 Gd Jk:Value),Co Try.prog Z 0 X (G ((Go.Conc.base 6).at ⟨#[J1,Vh,.pointer (some ⟨q,0,none⟩),Je,.bool false,.pointer (some ⟨s,0,none⟩),.pointer (some ⟨b,0,none⟩),.slice (some ⟨lb,lo,none⟩) es0.length lc,Ji,.slice (some ⟨tb,0,none⟩) T.length tc,.slice (some ⟨wb,0,none⟩) W.length wc,Yr,.int .i64 (i:Int),.int .i64 (k:Int),D3,Y6,Qx,Ya,Jd,Yf,Dk,Vf,Yg,Fg,J0,Vo,Dc,Qn,D0,Jb,Vl,Jg,Fj,Gu,Ym,Qt,Vc,Jv,Gn,Yv,Vn,Dm,F2,Fk,Vi,Y1,Va,Gf,Yc,Qa,Jy,V8,V6,Q2,Gb,Ys,V2,J2,Fi,Yq,Jx,Qh,Ds,Fw,Fh,Ye,Dz,Qd,Vt,Jq,Vu,Db,Ft,Vx,Yw,G7,V4,Qw,Fy,Dv,Fq,Fa,Dt,J9,Q6,J3,J7,Q7,Q9,Vy,Jo,Qq,Jn,Qe,Yt,Vz,Jw,Jf,Dy,Dr,Ve,Fl,Qf,G0,Yn,Dh,Dl,Vk,Fc,Fb,Gz,Dd,Qk,Y0,F7,Qc,Y5,Qi,Qo,Gq,Gi,J4,Yu,Ff,D1,V3,Gv,F3,Yh,F5,Fr,Gm,G1,J8,Vb,G4,Y7,Gk,Qp,Jc,F8,Y9,Fd,Fe,Yj,Dg,Vp,Df,V5,Dn,Gs,Yx,Fm,Ga,Qg,Fn,Di,Vs,D2,Gl,G8,Vq,Qy,Gx,Jz,Q8,V0,Yi,Y3,Y8,F0,J5,G2,Yk,Yl,Qj,Dp,Qr,Qz,G9,Fz,Dx,J6,Yo,V1,Ja,Ju,Gw,Fu,Y4,V7,Q5,Gp,F6,Dq,Qs,Gj,Jj,G3,Ql,Gr,Da,Yy,Gg,Jp,Fp,Vr,Du,Yb,Gh,Jr,Yz,Qv,Fv,Dj,Yp,Vd,Vj,Vv,Jt,Gy,Jm,Vm,Fo,Yd,Vw,Jh,Gc,F9,Qb,Vg,Q0,F1,Q1,Js,Q4,Q3,Qu,Qm,Y2,V9,Jl,Dw,G6,G5,Fs,F4,Gd,Jk],[]⟩ (.code reg19::[.code (sndC (sndC (sndC bodyS))),.inBlock 3,.code (sndC (sndC lbS)),.inLoop lbS,.inBlock 2,.code (sndC restS)])) []) w:=fun J1 Vh Je Ji Yr D3 Y6 Qx Ya Jd Yf Dk Vf Yg Fg J0 Vo Dc Qn D0 Jb Vl Jg Fj Gu Ym Qt Vc Jv Gn Yv Vn Dm F2 Fk Vi Y1 Va Gf Yc Qa Jy V8 V6 Q2 Gb Ys V2 J2 Fi Yq Jx Qh Ds Fw Fh Ye Dz Qd Vt Jq Vu Db Ft Vx Yw G7 V4 Qw Fy Dv Fq Fa Dt J9 Q6 J3 J7 Q7 Q9 Vy Jo Qq Jn Qe Yt Vz Jw Jf Dy Dr Ve Fl Qf G0 Yn Dh Dl Vk Fc Fb Gz Dd Qk Y0 F7 Qc Y5 Qi Qo Gq Gi J4 Yu Ff D1 V3 Gv F3 Yh F5 Fr Gm G1 J8 Vb G4 Y7 Gk Qp Jc F8 Y9 Fd Fe Yj Dg Vp Df V5 Dn Gs Yx Fm Ga Qg Fn Di Vs D2 Gl G8 Vq Qy Gx Jz Q8 V0 Yi Y3 Y8 F0 J5 G2 Yk Yl Qj Dp Qr Qz G9 Fz Dx J6 Yo V1 Ja Ju Gw Fu Y4 V7 Q5 Gp F6 Dq Qs Gj Jj G3 Ql Gr Da Yy Gg Jp Fp Vr Du Yb Gh Jr Yz Qv Fv Dj Yp Vd Vj Vv Jt Gy Jm Vm Fo Yd Vw Jh Gc F9 Qb Vg Q0 F1 Q1 Js Q4 Q3 Qu Qm Y2 V9 Jl Dw G6 G5 Fs F4 Gd Jk=>
   reg19_co hZ hX HEA.out hkT hTW ⟨rfl,rfl,fun i v hu=>by simp only[List.mem_cons,Prod.mk.injEq,List.not_mem_nil,or_false] at hu;rcases hu with⟨rfl,rfl⟩|⟨rfl,rfl⟩|⟨rfl,rfl⟩|⟨rfl,rfl⟩|⟨rfl,rfl⟩|⟨rfl,rfl⟩|⟨rfl,rfl⟩|⟨rfl,rfl⟩|⟨rfl,rfl⟩<;>rfl⟩ HA.out hnext
  clear hnext HA HEA HE HR IH HP hTW
  simp(config:={maxSteps:=2000000}) only[reg19,lb4S,bodyS,lbS,restS,body6,Try.f6,Option.getD_some,fstC,sndC,inC] at h19⊢
  refine co_seq hZ hX ?_
  refine co_seq hZ hX ?_
  refine co_code hZ hX TT (by decide) (by kernel_rfl) (by kernel_rfl) fun K hKK u hu=> ?_
  go_wp2_with fail
  first|refine hKK.out _ _ (co_same hu ?_)|refine⟨by trivial,by trivial,hKK.out _ _ (co_same hu ?_)⟩
  clear hKK K hu
  refine co_cond (t:=true) hZ hX (by simp[Act.eval]<;>omega) ?_
  simp only[↓reduceIte]
  refine co_skip hZ hX ?_
  refine co_seq hZ hX ?_
  refine co_block hZ hX ?_
  refine co_seq hZ hX ?_
  refine co_code hZ hX TT (by decide) (by kernel_rfl) (by kernel_rfl) fun K hKK u hu=> ?_
  have d0:=u_cell hu l0
  suffices hM:∀(J1 Vh Je Ji Yr D3 Y6 Qx Ya Jd Yf Dk Vf Yg Fg J0 Vo Dc Qn D0 Jb Vl Jg Fj Gu Ym Qt Vc Jv Gn Yv Vn Dm F2 Fk Vi Y1 Va Gf Yc Qa Jy V8 V6 Q2 Gb Ys V2 J2 Fi Yq Jx Qh Ds Fw Fh Ye Dz Qd Vt Jq Vu Db Ft Vx Yw G7 V4 Qw Fy Dv Fq Fa Dt J9 Q6 J3 J7 Q7 Q9 Vy Jo Qq Jn Qe Yt Vz Jw Jf Dy Dr Ve Fl Qf G0 Yn Dh Dl Vk Fc Fb Gz Dd Qk Y0 F7 Qc Y5 Qi Qo Gq Gi J4 Yu Ff D1 V3 Gv F3 Yh F5 Fr Gm G1 J8 Vb G4 Y7 Gk Qp Jc F8 Y9 Fd Fe Yj Dg Vp Df V5 Dn Gs Yx Fm Ga Qg Fn Di Vs D2 Gl G8 Vq Qy Gx Jz Q8 V0 Yi Y3 Y8 F0 J5 G2 Yk Yl Qj Dp Qr Qz G9 Fz Dx J6 Yo V1 Ja Ju Gw Fu Y4 V7 Q5 Gp F6 Dq Qs Gj Jj G3 Ql Gr Da Yy Gg Jp Fp Vr Du Yb Gh Jr Yz Qv Fv Dj Yp Vd Vj Vv Jt Gy Jm Vm Fo Yd Vw Jh Gc F9 Qb Vg Q0 F1 Q1 Js Q4 Q3 Qu Qm Y2 V9 Jl Dw G6 G5 Fs F4 Gd Jk:Value),K #[J1,Vh,.pointer (some ⟨q,0,none⟩),Je,.bool false,.pointer (some ⟨s,0,none⟩),.pointer (some ⟨b,0,none⟩),.slice (some ⟨lb,lo,none⟩) es0.length lc,Ji,.slice (some ⟨tb,0,none⟩) T.length tc,.slice (some ⟨wb,0,none⟩) W.length wc,Yr,.int .i64 (i:Int),.int .i64 (k:Int),D3,Y6,Qx,Ya,Jd,Yf,Dk,Vf,Yg,Fg,J0,Vo,Dc,Qn,D0,Jb,Vl,Jg,Fj,Gu,Ym,Qt,Vc,Jv,Gn,Yv,Vn,Dm,F2,Fk,Vi,Y1,Va,Gf,Yc,Qa,Jy,V8,V6,Q2,Gb,Ys,V2,J2,Fi,Yq,Jx,Qh,Ds,Fw,Fh,Ye,Dz,Qd,Vt,Jq,Vu,Db,Ft,Vx,Yw,G7,V4,Qw,Fy,Dv,Fq,Fa,Dt,J9,Q6,J3,J7,Q7,Q9,Vy,Jo,Qq,Jn,Qe,Yt,Vz,Jw,Jf,Dy,Dr,Ve,Fl,Qf,G0,Yn,Dh,Dl,Vk,Fc,Fb,Gz,Dd,Qk,Y0,F7,Qc,Y5,Qi,Qo,Gq,Gi,J4,Yu,Ff,D1,V3,Gv,F3,Yh,F5,Fr,Gm,G1,J8,Vb,G4,Y7,Gk,Qp,Jc,F8,Y9,Fd,Fe,Yj,Dg,Vp,Df,V5,Dn,Gs,Yx,Fm,Ga,Qg,Fn,Di,Vs,D2,Gl,G8,Vq,Qy,Gx,Jz,Q8,V0,Yi,Y3,Y8,F0,J5,G2,Yk,Yl,Qj,Dp,Qr,Qz,G9,Fz,Dx,J6,Yo,V1,Ja,Ju,Gw,Fu,Y4,V7,Q5,Gp,F6,Dq,Qs,Gj,Jj,G3,Ql,Gr,Da,Yy,Gg,Jp,Fp,Vr,Du,Yb,Gh,Jr,Yz,Qv,Fv,Dj,Yp,Vd,Vj,Vv,Jt,Gy,Jm,Vm,Fo,Yd,Vw,Jh,Gc,F9,Qb,Vg,Q0,F1,Q1,Js,Q4,Q3,Qu,Qm,Y2,V9,Jl,Dw,G6,G5,Fs,F4,Gd,Jk] u by
   skip
   go_wp2_with fail
   first|exact hM ..|exact⟨by trivial,by trivial,hM ..⟩
  intro J1 Vh Je Ji Yr D3 Y6 Qx Ya Jd Yf Dk Vf Yg Fg J0 Vo Dc Qn D0 Jb Vl Jg Fj Gu Ym Qt Vc Jv Gn Yv Vn Dm F2 Fk Vi Y1 Va Gf Yc Qa Jy V8 V6 Q2 Gb Ys V2 J2 Fi Yq Jx Qh Ds Fw Fh Ye Dz Qd Vt Jq Vu Db Ft Vx Yw G7 V4 Qw Fy Dv Fq Fa Dt J9 Q6 J3 J7 Q7 Q9 Vy Jo Qq Jn Qe Yt Vz Jw Jf Dy Dr Ve Fl Qf G0 Yn Dh Dl Vk Fc Fb Gz Dd Qk Y0 F7 Qc Y5 Qi Qo Gq Gi J4 Yu Ff D1 V3 Gv F3 Yh F5 Fr Gm G1 J8 Vb G4 Y7 Gk Qp Jc F8 Y9 Fd Fe Yj Dg Vp Df V5 Dn Gs Yx Fm Ga Qg Fn Di Vs D2 Gl G8 Vq Qy Gx Jz Q8 V0 Yi Y3 Y8 F0 J5 G2 Yk Yl Qj Dp Qr Qz G9 Fz Dx J6 Yo V1 Ja Ju Gw Fu Y4 V7 Q5 Gp F6 Dq Qs Gj Jj G3 Ql Gr Da Yy Gg Jp Fp Vr Du Yb Gh Jr Yz Qv Fv Dj Yp Vd Vj Vv Jt Gy Jm Vm Fo Yd Vw Jh Gc F9 Qb Vg Q0 F1 Q1 Js Q4 Q3 Qu Qm Y2 V9 Jl Dw G6 G5 Fs F4 Gd Jk
  refine hKK.out _ _ (co_same hu ?_)
  clear hKK K hu d0 u l0
  refine co_seq hZ hX ?_
  refine co_seq hZ hX ?_
  refine co_code hZ hX TT (by decide) (by kernel_rfl) (by kernel_rfl) fun K hKK u hu=> ?_
  have l11:=u_cell hu l11
  have l12:=u_cell hu l12
  have l13:=u_cell hu l13
  have l14:=u_cell hu l14
  have a0:=u_cell hu a0
  have a1:=u_cell hu a1
  have a2:=u_cell hu a2
  have a3:=u_cell hu a3
  have a4:=u_cell hu a4
  have a5:=u_cell hu a5
  have a6:=u_cell hu a6
  have b0:=u_cell hu b0
  have b1:=u_cell hu b1
  have b2:=u_cell hu b2
  have c9:=u_cell hu c9
  have c0:=u_cell hu c0
  have c1:=u_cell hu c1
  have c2:=u_cell hu c2
  have c3:=u_cell hu c3
  have c4:=u_cell hu c4
  have c5:=u_cell hu c5
  have c6:=u_cell hu c6
  have n1:=neq_tk e.given e.given
  have n2:=neq_wa e.tn.wait e.tn.wait
  simp only[decide_true,Bool.not_true] at n1 n2
  suffices hM:∀(n:Nat) (z:Bool),z=false→∀(J1 Vh Je Ji Yr D3 Y6 Qx Ya Jd Yf Dk Vf Yg Fg J0 Vo Dc Qn D0 Jb Vl Jg Fj Gu Ym Qt Vc Jv Gn Yv Vn Dm F2 Fk Vi Y1 Va Gf Yc Qa Jy V8 V6 Q2 Gb Ys V2 J2 Fi Yq Jx Qh Ds Fw Fh Ye Dz Qd Vt Jq Vu Db Ft Vx Yw G7 V4 Qw Fy Dv Fq Fa Dt J9 Q6 J3 J7 Q7 Q9 Vy Jo Qq Jn Qe Yt Vz Jw Jf Dy Dr Ve Fl Qf G0 Yn Dh Dl Vk Fc Fb Gz Dd Qk Y0 F7 Qc Y5 Qi Qo Gq Gi J4 Yu Ff V3 Gv F3 Yh F5 Fr Gm G1 J8 Vb G4 Y7 Gk Qp Jc F8 Y9 Fd Fe Yj Dg Vp Df V5 Dn Gs Yx Fm Ga Qg Fn Di Vs D2 Gl G8 Vq Qy Gx Jz Q8 V0 Yi Y3 Y8 F0 J5 G2 Yk Yl Qj Dp Qr Qz G9 Fz Dx J6 Yo V1 Ja Ju Gw Fu Y4 V7 Q5 Gp F6 Dq Qs Gj Jj G3 Ql Gr Da Yy Gg Jp Fp Vr Du Yb Gh Jr Yz Qv Fv Dj Yp Vd Vj Vv Jt Gy Jm Vm Fo Yd Vw Jh Gc F9 Qb Vg Q0 F1 Q1 Js Q4 Q3 Qu Qm Y2 V9 Jl Dw G6 G5 Fs F4 Gd Jk:Value),K #[J1,Vh,.pointer (some ⟨q,0,none⟩),Je,.bool false,.pointer (some ⟨s,0,none⟩),.pointer (some ⟨b,0,none⟩),.slice (some ⟨lb,lo,none⟩) es0.length lc,Ji,.slice (some ⟨tb,0,none⟩) T.length tc,.slice (some ⟨wb,0,none⟩) W.length wc,Yr,.int .i64 (i:Int),.int .i64 (k:Int),D3,Y6,Qx,Ya,Jd,Yf,Dk,Vf,Yg,Fg,J0,Vo,Dc,Qn,D0,Jb,Vl,Jg,Fj,Gu,Ym,Qt,Vc,Jv,Gn,Yv,Vn,Dm,F2,Fk,Vi,Y1,Va,Gf,Yc,Qa,Jy,V8,V6,Q2,Gb,Ys,V2,J2,Fi,Yq,Jx,Qh,Ds,Fw,Fh,Ye,Dz,Qd,Vt,Jq,Vu,Db,Ft,Vx,Yw,G7,V4,Qw,Fy,Dv,Fq,Fa,Dt,J9,Q6,J3,J7,Q7,Q9,Vy,Jo,Qq,Jn,Qe,Yt,Vz,Jw,Jf,Dy,Dr,Ve,Fl,Qf,G0,Yn,Dh,Dl,Vk,Fc,Fb,Gz,Dd,Qk,Y0,F7,Qc,Y5,Qi,Qo,Gq,Gi,J4,Yu,Ff,.bool z,V3,Gv,F3,Yh,F5,Fr,Gm,G1,J8,Vb,G4,Y7,Gk,Qp,Jc,F8,Y9,Fd,Fe,Yj,Dg,Vp,Df,V5,Dn,Gs,Yx,Fm,Ga,Qg,Fn,Di,Vs,D2,Gl,G8,Vq,Qy,Gx,Jz,Q8,V0,Yi,Y3,Y8,F0,J5,G2,Yk,Yl,Qj,Dp,Qr,Qz,G9,Fz,Dx,J6,Yo,V1,Ja,Ju,Gw,Fu,Y4,V7,Q5,Gp,F6,Dq,Qs,Gj,Jj,G3,Ql,Gr,Da,Yy,Gg,Jp,Fp,Vr,Du,Yb,Gh,Jr,Yz,Qv,Fv,Dj,Yp,Vd,Vj,Vv,Jt,Gy,Jm,Vm,Fo,Yd,Vw,Jh,Gc,F9,Qb,Vg,Q0,F1,Q1,Js,Q4,Q3,Qu,Qm,Y2,V9,Jl,Dw,G6,G5,Fs,F4,Gd,Jk] (u.drewN n) by
   clear h19
   generalize e.given=eg at c0 c1 c2 c3 c4 c5 c6 a0 a1 a2 a3 a4 a5 a6 n1
   generalize e.tn=et at l11 l12 l13 l14 b0 b1 b2 n2 hk2 ham
   have ham2:¬et.among<1:=by omega
   go_wp2_with fail
   go_quiet (fail)
   go_wp2_with fail
   first|exact hM _ _ (by simp[hk2]<;>omega) ..|exact⟨by trivial,by trivial,hM _ _ (by simp[hk2]<;>omega) ..⟩
  intro n z hz J1 Vh Je Ji Yr D3 Y6 Qx Ya Jd Yf Dk Vf Yg Fg J0 Vo Dc Qn D0 Jb Vl Jg Fj Gu Ym Qt Vc Jv Gn Yv Vn Dm F2 Fk Vi Y1 Va Gf Yc Qa Jy V8 V6 Q2 Gb Ys V2 J2 Fi Yq Jx Qh Ds Fw Fh Ye Dz Qd Vt Jq Vu Db Ft Vx Yw G7 V4 Qw Fy Dv Fq Fa Dt J9 Q6 J3 J7 Q7 Q9 Vy Jo Qq Jn Qe Yt Vz Jw Jf Dy Dr Ve Fl Qf G0 Yn Dh Dl Vk Fc Fb Gz Dd Qk Y0 F7 Qc Y5 Qi Qo Gq Gi J4 Yu Ff V3 Gv F3 Yh F5 Fr Gm G1 J8 Vb G4 Y7 Gk Qp Jc F8 Y9 Fd Fe Yj Dg Vp Df V5 Dn Gs Yx Fm Ga Qg Fn Di Vs D2 Gl G8 Vq Qy Gx Jz Q8 V0 Yi Y3 Y8 F0 J5 G2 Yk Yl Qj Dp Qr Qz G9 Fz Dx J6 Yo V1 Ja Ju Gw Fu Y4 V7 Q5 Gp F6 Dq Qs Gj Jj G3 Ql Gr Da Yy Gg Jp Fp Vr Du Yb Gh Jr Yz Qv Fv Dj Yp Vd Vj Vv Jt Gy Jm Vm Fo Yd Vw Jh Gc F9 Qb Vg Q0 F1 Q1 Js Q4 Q3 Qu Qm Y2 V9 Jl Dw G6 G5 Fs F4 Gd Jk
  subst hz
  refine hKK.out _ _ (co_same (v:=w) ⟨hu.heap,hu.os,hu.output⟩ ?_)
  clear hKK K hu u n n1 n2 l11 l12 l13 l14 a0 a1 a2 a3 a4 a5 a6 b0 b1 b2 c9 c0 c1 c2 c3 c4 c5 c6
  refine co_cond (t:=false) hZ hX (by simp[Act.eval]) ?_
  simp only[Bool.false_eq_true,↓reduceIte]
  refine co_skip hZ hX ?_
  refine co_seq hZ hX ?_
  exact h19 _ _ _ _ _ _ _ _ _ _ _ _ _ _ _ _ _ _ _ _ _ _ _ _ _ _ _ _ _ _ _ _ _ _ _ _ _ _ _ _ _ _ _ _ _ _ _ _ _ _ _ _ _ _ _ _ _ _ _ _ _ _ _ _ _ _ _ _ _ _ _ _ _ _ _ _ _ _ _ _ _ _ _ _ _ _ _ _ _ _ _ _ _ _ _ _ _ _ _ _ _ _ _ _ _ _ _ _ _ _ _ _ _ _ _ _ _ _ _ _ _ _ _ _ _ _ _ _ _ _ _ _ _ _ _ _ _ _ _ _ _ _ _ _ _ _ _ _ _ _ _ _ _ _ _ _ _ _ _ _ _ _ _ _ _ _ _ _ _ _ _ _ _ _ _ _ _ _ _ _ _ _ _ _ _ _ _ _ _ _ _ _ _ _ _ _ _ _ _ _ _ _ _ _ _ _ _ _ _ _ _ _ _ _ _ _ _ _ _ _ _ _ _ _ _ _ _ _ _ _ _ _ _ _ _ _ _ _ _ _
end Co
end Go.Proofs.Ytlngbdggehghgaa

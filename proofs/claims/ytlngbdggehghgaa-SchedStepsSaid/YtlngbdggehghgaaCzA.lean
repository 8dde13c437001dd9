/-
  The law SchedSteps, in company: the loop over the log. Conditions: as each theorem says.
-/
import Derived.Test.YtlngbdggehghgaaCyK
namespace Go.Proofs.Ytlngbdggehghgaa
set_option linter.unusedSimpArgs false
set_option linter.unusedVariables false
open Go.RowKit
namespace Co
open Go.Conc
set_option maxRecDepth 100000 in
set_option maxHeartbeats 8000000 in
theorem fin4_co {Z:Goal} {X:Fx} {v2 w:World} {s b q n0 i k n gb go gc rb ro rc ub uo uc nb no nc:Nat} {tA wA:Option Addr} {tc wc:Nat} {lg:Value} {Lt:List Tn} {T:List Tk} {W:List Wa} {e:Ev} {kk:List Item} (hZ:Z.Ok Try.prog) (hX:X.Ok Try.prog 0) (hE:EntAt v2 b n0 i e gb go gc rb ro rc ub uo uc nb no nc)
 (ht:e.beg≤(n:Int)∨200≤T.length) (hT:T.length≤200) (hi:n0≤20000) (A:StA v2 w lg (.slice tA T.length tc) (.slice wA W.length wc) Lt T W)
 (hnext:∀(J1 Vi Je Ji Yr D3 D2 Y6 Qy Ya Jd Yf Dk Vg Yg Fh J0 Vp Dd Qo D0 Jb Vm Jg Fk Gv Ym Qu Vd Jv Gp Yv Vo Dm F3 Fl Vj Y1 Vb Gg Yc Qa Jy V8 V7 Q3 Gc Ys V3 J2 Fj Yq Jx Qi Ds Fy Fi Ye Dz Qd Vu Jq Vv Dc Fu Vy Yw G8 V5 Qx Fz Dv Fr Fa Dt J9 Q7 J3 J7 Q8 Va Vz Jo Qr Jn Qe Yt V0 Jw Jf Dy Dr Vf Fm Qg G1 Yn Dh Dl Vl Fd Fc G0 De Ql Y0 F8 Qc Y5 Qj Qp Gr Gj J4 Yu Fg Qf V4 Gw F4 Yh F6 Fs Gn G2 J8 Vc G5 Y7 Gl Qq Jc F9 Y9 Fe Ff Yj Dg Vq Df V6 Dn Gu Yx Fn Gb Qh Fo Di Vt D1 Gm G9 Vr Qz Gy Jz Q9 V1 Yi Y3 Y8 F1 J5 G3 Yk Yl Qk Dp Qs Q0 Da F0 Dx J6 Yo V2 Ja Ju Gx Fv Y4 V9 Q6 Gq F7 Dq Qt Gk Jj G4 Qm Gs Db Yy Gh Jp Fq Vs Du Yb Gi Jr Yz Qw Fw Dj Yp Ve Vk Vw Jt Gz Jm Vn Fp Yd Vx Jh Gd Ga Qb Vh Q1 F2 Q2 Js Q5 Q4 Qv Qn Y2 Fb Jl Dw G7 G6 Ft F5 Gf Jk:Value),Co Try.prog Z 0 X (G ((Go.Conc.base 6).at ⟨#[J1,Vi,.pointer (some ⟨q,0,none⟩),Je,.bool false,.pointer (some ⟨s,0,none⟩),.pointer (some ⟨b,0,none⟩),lg,Ji,.slice tA T.length tc,.slice wA W.length wc,Yr,.int .i64 ((i:Int)+1),D3,D2,Y6,Qy,Ya,Jd,Yf,Dk,Vg,Yg,Fh,J0,Vp,Dd,Qo,D0,Jb,Vm,Jg,Fk,Gv,Ym,Qu,Vd,Jv,Gp,Yv,Vo,Dm,F3,Fl,Vj,Y1,Vb,Gg,Yc,Qa,Jy,V8,V7,Q3,Gc,Ys,V3,J2,Fj,Yq,Jx,Qi,Ds,Fy,Fi,Ye,Dz,Qd,Vu,Jq,Vv,Dc,Fu,Vy,Yw,G8,V5,Qx,Fz,Dv,Fr,Fa,Dt,J9,Q7,J3,J7,Q8,Va,Vz,Jo,Qr,Jn,Qe,Yt,V0,Jw,Jf,Dy,Dr,Vf,Fm,Qg,G1,Yn,Dh,Dl,Vl,Fd,Fc,G0,De,Ql,Y0,F8,Qc,Y5,Qj,Qp,Gr,Gj,J4,Yu,Fg,Qf,V4,Gw,F4,Yh,F6,Fs,Gn,G2,J8,Vc,G5,Y7,Gl,Qq,Jc,F9,Y9,Fe,Ff,Yj,Dg,Vq,Df,V6,Dn,Gu,Yx,Fn,Gb,Qh,Fo,Di,Vt,D1,Gm,G9,Vr,Qz,Gy,Jz,Q9,V1,Yi,Y3,Y8,F1,J5,G3,Yk,Yl,Qk,Dp,Qs,Q0,Da,F0,Dx,J6,Yo,V2,Ja,Ju,Gx,Fv,Y4,V9,Q6,Gq,F7,Dq,Qt,Gk,Jj,G4,Qm,Gs,Db,Yy,Gh,Jp,Fq,Vs,Du,Yb,Gi,Jr,Yz,Qw,Fw,Dj,Yp,Ve,Vk,Vw,Jt,Gz,Jm,Vn,Fp,Yd,Vx,Jh,Gd,Ga,Qb,Vh,Q1,F2,Q2,Js,Q5,Q4,Qv,Qn,Y2,Fb,Jl,Dw,G7,G6,Ft,F5,Gf,Jk],[]⟩ (.code lbS:: .inLoop lbS::kk)) []) w)
 (J1 Vi Je Ji Yr Y6 Qy Ya Jd Yf Dk Vg Yg Fh J0 Vp Dd Qo D0 Jb Vm Jg Fk Gv Ym Qu Vd Jv Gp Yv Vo Dm F3 Fl Vj Y1 Vb Gg Yc Qa Jy V8 V7 Q3 Gc Ys V3 J2 Fj Yq Jx Qi Ds Fy Fi Ye Dz Qd Vu Jq Vv Dc Fu Vy Yw G8 V5 Qx Fz Dv Fr Fa Dt J9 Q7 J3 J7 Q8 Va Vz Jo Qr Jn Qe Yt V0 Jw Jf Dy Dr Vf Fm Qg G1 Yn Dh Dl Vl Fd Fc G0 De Ql Y0 F8 Qc Y5 Qj Qp Gr Gj J4 Yu Fg Qf V4 Gw F4 Yh F6 Fs Gn G2 J8 Vc G5 Y7 Gl Qq Jc F9 Y9 Fe Ff Yj Dg Vq Df V6 Dn Gu Yx Fn Gb Qh Fo Di Vt D1 Gm G9 Vr Qz Gy Jz Q9 V1 Yi Y3 Y8 F1 J5 G3 Yk Yl Qk Dp Qs Q0 Da F0 Dx J6 Yo V2 Ja Ju Gx Fv Y4 V9 Q6 Gq F7 Dq Qt Gk Jj G4 Qm Gs Db Yy Gh Jp Fq Vs Du Yb Gi Jr Yz Qw Fw Dj Yp Ve Vk Vw Jt Gz Jm Vn Fp Yd Vx Jh Gd Ga Qb Vh Q1 F2 Q2 Js Q5 Q4 Qv Qn Y2 Fb Jl Dw G7 G6 Ft F5 Gf Jk:Value):Co Try.prog Z 0 X (G ((Go.Conc.base 6).at ⟨#[J1,Vi,.pointer (some ⟨q,0,none⟩),Je,.bool false,.pointer (some ⟨s,0,none⟩),.pointer (some ⟨b,0,none⟩),lg,Ji,.slice tA T.length tc,.slice wA W.length wc,Yr,.int .i64 (i:Int),.int .i64 (k:Int),.int .i64 (n:Int),Y6,Qy,Ya,Jd,Yf,Dk,Vg,Yg,Fh,J0,Vp,Dd,Qo,D0,Jb,Vm,Jg,Fk,Gv,Ym,Qu,Vd,Jv,Gp,Yv,Vo,Dm,F3,Fl,Vj,Y1,Vb,Gg,Yc,Qa,Jy,V8,V7,Q3,Gc,Ys,V3,J2,Fj,Yq,Jx,Qi,Ds,Fy,Fi,Ye,Dz,Qd,Vu,Jq,Vv,Dc,Fu,Vy,Yw,G8,V5,Qx,Fz,Dv,Fr,Fa,Dt,J9,Q7,J3,J7,Q8,Va,Vz,Jo,Qr,Jn,Qe,Yt,V0,Jw,Jf,Dy,Dr,Vf,Fm,Qg,G1,Yn,Dh,Dl,Vl,Fd,Fc,G0,De,Ql,Y0,F8,Qc,Y5,Qj,Qp,Gr,Gj,J4,Yu,Fg,Qf,V4,Gw,F4,Yh,F6,Fs,Gn,G2,J8,Vc,G5,Y7,Gl,Qq,Jc,F9,Y9,Fe,Ff,Yj,Dg,Vq,Df,V6,Dn,Gu,Yx,Fn,Gb,Qh,Fo,Di,Vt,D1,Gm,G9,Vr,Qz,Gy,Jz,Q9,V1,Yi,Y3,Y8,F1,J5,G3,Yk,Yl,Qk,Dp,Qs,Q0,Da,F0,Dx,J6,Yo,V2,Ja,Ju,Gx,Fv,Y4,V9,Q6,Gq,F7,Dq,Qt,Gk,Jj,G4,Qm,Gs,Db,Yy,Gh,Jp,Fq,Vs,Du,Yb,Gi,Jr,Yz,Qw,Fw,Dj,Yp,Ve,Vk,Vw,Jt,Gz,Jm,Vn,Fp,Yd,Vx,Jh,Gd,Ga,Qb,Vh,Q1,F2,Q2,Js,Q5,Q4,Qv,Qn,Y2,Fb,Jl,Dw,G7,G6,Ft,F5,Gf,Jk],[]⟩ (.code lb4S:: .inLoop lb4S:: .inBlock 4:: .inBlock 3:: .code (sndC (sndC lbS)):: .inLoop lbS::kk)) []) w:=by
 have HN:=Hd.mk hnext
 clear hnext
 obtain⟨_,_,eT,t1,t2,_⟩:=A.t.form
 cases eT
 have hil:=hE.il
 have h12:=A.kp.cell hE.n hE.lt
 have hnn:=A.kp.cell (hE.na 0 _ rfl) hE.nlt
 simp only[Nat.add_zero] at hnn
 generalize e.beg=bg at ht hnn
 clear hE A
 simp(config:={maxSteps:=1000000}) only[lb4S,bodyS,lbS,restS,body6,Try.f6,Option.getD_some,fstC,sndC,inC] at HN⊢
 refine co_seq hZ hX ?_
 refine co_seq hZ hX ?_
 refine co_code hZ hX TT (by decide) (by kernel_rfl) (by kernel_rfl) fun K hKK u hu=> ?_
 have d0:=u_cell hu h12
 have d1:=u_cell hu hnn
 suffices hM:∀(J1 Vi Je Ji Yr Y6 Qy Ya Jd Yf Dk Vg Yg Fh J0 Vp Dd Qo D0 Jb Vm Jg Fk Gv Ym Qu Vd Jv Gp Yv Vo Dm F3 Fl Vj Y1 Vb Gg Yc Qa Jy V8 V7 Q3 Gc Ys V3 J2 Fj Yq Jx Qi Ds Fy Fi Ye Dz Qd Vu Jq Vv Dc Fu Vy Yw G8 V5 Qx Fz Dv Fr Fa Dt J9 Q7 J3 J7 Q8 Va Vz Jo Qr Jn Qe Yt V0 Jw Jf Dy Dr Vf Fm Qg G1 Yn Dh Dl Vl Fd Fc G0 De Ql Y0 F8 Qc Y5 Qj Qp Gr Gj J4 Yu Fg Qf V4 Gw F4 Yh F6 Fs Gn G2 J8 Vc G5 Y7 Gl Qq Jc F9 Y9 Fe Ff Yj Dg Vq Df V6 Dn Gu Yx Fn Gb Qh Fo Di Vt Gm G9 Vr Qz Gy Jz Q9 V1 Yi Y3 Y8 F1 J5 G3 Yk Yl Qk Dp Qs Q0 Da F0 Dx J6 Yo V2 Ja Ju Gx Fv Y4 V9 Q6 Gq F7 Dq Qt Gk Jj G4 Qm Gs Db Yy Gh Jp Fq Vs Du Yb Gi Jr Yz Qw Fw Dj Yp Ve Vk Vw Jt Gz Jm Vn Fp Yd Vx Jh Gd Ga Qb Vh Q1 F2 Q2 Js Q5 Q4 Qv Qn Y2 Fb Jl Dw G7 G6 Ft F5 Gf Jk:Value),K #[J1,Vi,.pointer (some ⟨q,0,none⟩),Je,.bool false,.pointer (some ⟨s,0,none⟩),.pointer (some ⟨b,0,none⟩),lg,Ji,.slice tA T.length tc,.slice wA W.length wc,Yr,.int .i64 (i:Int),.int .i64 (k:Int),.int .i64 (n:Int),Y6,Qy,Ya,Jd,Yf,Dk,Vg,Yg,Fh,J0,Vp,Dd,Qo,D0,Jb,Vm,Jg,Fk,Gv,Ym,Qu,Vd,Jv,Gp,Yv,Vo,Dm,F3,Fl,Vj,Y1,Vb,Gg,Yc,Qa,Jy,V8,V7,Q3,Gc,Ys,V3,J2,Fj,Yq,Jx,Qi,Ds,Fy,Fi,Ye,Dz,Qd,Vu,Jq,Vv,Dc,Fu,Vy,Yw,G8,V5,Qx,Fz,Dv,Fr,Fa,Dt,J9,Q7,J3,J7,Q8,Va,Vz,Jo,Qr,Jn,Qe,Yt,V0,Jw,Jf,Dy,Dr,Vf,Fm,Qg,G1,Yn,Dh,Dl,Vl,Fd,Fc,G0,De,Ql,Y0,F8,Qc,Y5,Qj,Qp,Gr,Gj,J4,Yu,Fg,Qf,V4,Gw,F4,Yh,F6,Fs,Gn,G2,J8,Vc,G5,Y7,Gl,Qq,Jc,F9,Y9,Fe,Ff,Yj,Dg,Vq,Df,V6,Dn,Gu,Yx,Fn,Gb,Qh,Fo,Di,Vt,.bool false,Gm,G9,Vr,Qz,Gy,Jz,Q9,V1,Yi,Y3,Y8,F1,J5,G3,Yk,Yl,Qk,Dp,Qs,Q0,Da,F0,Dx,J6,Yo,V2,Ja,Ju,Gx,Fv,Y4,V9,Q6,Gq,F7,Dq,Qt,Gk,Jj,G4,Qm,Gs,Db,Yy,Gh,Jp,Fq,Vs,Du,Yb,Gi,Jr,Yz,Qw,Fw,Dj,Yp,Ve,Vk,Vw,Jt,Gz,Jm,Vn,Fp,Yd,Vx,Jh,Gd,Ga,Qb,Vh,Q1,F2,Q2,Js,Q5,Q4,Qv,Qn,Y2,Fb,Jl,Dw,G7,G6,Ft,F5,Gf,Jk] u by
  by_cases h1:(n:Int)<bg
  ·have h2:¬((T.length:Int)<200):=by omega
   go_wp2_with fail
   first|exact hM ..|exact⟨by trivial,by trivial,hM ..⟩
  ·go_wp2_with fail
   first|exact hM ..|exact⟨by trivial,by trivial,hM ..⟩
 intro J1 Vi Je Ji Yr Y6 Qy Ya Jd Yf Dk Vg Yg Fh J0 Vp Dd Qo D0 Jb Vm Jg Fk Gv Ym Qu Vd Jv Gp Yv Vo Dm F3 Fl Vj Y1 Vb Gg Yc Qa Jy V8 V7 Q3 Gc Ys V3 J2 Fj Yq Jx Qi Ds Fy Fi Ye Dz Qd Vu Jq Vv Dc Fu Vy Yw G8 V5 Qx Fz Dv Fr Fa Dt J9 Q7 J3 J7 Q8 Va Vz Jo Qr Jn Qe Yt V0 Jw Jf Dy Dr Vf Fm Qg G1 Yn Dh Dl Vl Fd Fc G0 De Ql Y0 F8 Qc Y5 Qj Qp Gr Gj J4 Yu Fg Qf V4 Gw F4 Yh F6 Fs Gn G2 J8 Vc G5 Y7 Gl Qq Jc F9 Y9 Fe Ff Yj Dg Vq Df V6 Dn Gu Yx Fn Gb Qh Fo Di Vt Gm G9 Vr Qz Gy Jz Q9 V1 Yi Y3 Y8 F1 J5 G3 Yk Yl Qk Dp Qs Q0 Da F0 Dx J6 Yo V2 Ja Ju Gx Fv Y4 V9 Q6 Gq F7 Dq Qt Gk Jj G4 Qm Gs Db Yy Gh Jp Fq Vs Du Yb Gi Jr Yz Qw Fw Dj Yp Ve Vk Vw Jt Gz Jm Vn Fp Yd Vx Jh Gd Ga Qb Vh Q1 F2 Q2 Js Q5 Q4 Qv Qn Y2 Fb Jl Dw G7 G6 Ft F5 Gf Jk
 refine hKK.out _ _ (co_same hu ?_)
 clear hKK K hu d0 d1 u h12 hnn
 refine co_cond (t:=false) hZ hX (by simp[Act.eval]) ?_
 simp only[Bool.false_eq_true,↓reduceIte]
 refine co_exit hZ hX rfl ?_
 refine co_inBlock hZ hX ?_
 refine co_code hZ hX TT (by decide) (by kernel_rfl) (by kernel_rfl) fun K hKK u hu=> ?_
 go_wp2_with fail
 first|refine hKK.out _ _ (co_same hu ?_)|refine⟨by trivial,by trivial,hKK.out _ _ (co_same hu ?_)⟩
 clear hKK K hu
 refine co_inLoop hZ hX ?_
 exact HN.out _ _ _ _ _ _ _ _ _ _ _ _ _ _ _ _ _ _ _ _ _ _ _ _ _ _ _ _ _ _ _ _ _ _ _ _ _ _ _ _ _ _ _ _ _ _ _ _ _ _ _ _ _ _ _ _ _ _ _ _ _ _ _ _ _ _ _ _ _ _ _ _ _ _ _ _ _ _ _ _ _ _ _ _ _ _ _ _ _ _ _ _ _ _ _ _ _ _ _ _ _ _ _ _ _ _ _ _ _ _ _ _ _ _ _ _ _ _ _ _ _ _ _ _ _ _ _ _ _ _ _ _ _ _ _ _ _ _ _ _ _ _ _ _ _ _ _ _ _ _ _ _ _ _ _ _ _ _ _ _ _ _ _ _ _ _ _ _ _ _ _ _ _ _ _ _ _ _ _ _ _ _ _ _ _ _ _ _ _ _ _ _ _ _ _ _ _ _ _ _ _ _ _ _ _ _ _ _ _ _ _ _ _ _ _ _ _ _ _ _ _ _ _ _ _ _ _ _ _ _ _ _ _ _ _ _ _ _ _ _ _
end Co
end Go.Proofs.Ytlngbdggehghgaa

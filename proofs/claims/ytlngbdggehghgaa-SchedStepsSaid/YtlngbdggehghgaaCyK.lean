/-
  The law SchedSteps, in company: a task that was begun is put in. Conditions: as each theorem says.
-/
import Derived.Test.YtlngbdggehghgaaCyT
namespace Go.Proofs.Ytlngbdggehghgaa
set_option linter.unusedSimpArgs false
set_option linter.unusedVariables false
open Go.RowKit
theorem slK_one (w:World) (g:Nat) (x:Tk) (t:TypeId) (hg:g=w.heap.size):Sl tkR (w.alloc (.cells #[.int .i64 x.id,.int .i64 x.kind,.int .i64 x.pc,.int .i64 x.a,.int .i64 x.b,.int .i64 x.c,.int .i64 x.d] t)) (.slice (some ⟨g,0,none⟩) 1 1) [x]:=by
 subst hg
 exact Own.sl (Own.lit (e:=t) (R:=tkR) (B:=w.heap.size) (cells:=x.cells) rfl (Nat.le_refl _) (Rep.many_one (R:=tkR) (x:=x) rfl) rfl (by decide))
theorem slW_one (w:World) (g:Nat) (x:Wa) (t:TypeId) (hg:g=w.heap.size):Sl waR (w.alloc (.cells #[.int .i64 x.kind,.int .i64 x.obj,.int .i64 x.til] t)) (.slice (some ⟨g,0,none⟩) 1 1) [x]:=by
 subst hg
 exact Own.sl (Own.lit (e:=t) (R:=waR) (B:=w.heap.size) (cells:=x.cells) rfl (Nat.le_refl _) (Rep.many_one (R:=waR) (x:=x) rfl) rfl (by decide))
namespace Co
open Go.Conc
noncomputable def lb4S:Code:=inC (inC (sndC (sndC (sndC (sndC bodyS)))))
noncomputable def blk5:Code:=fstC (sndC lb4S)
theorem StA.same {v2 u w:World} {lg tv wv:Value} {L:List Tn} {T:List Tk} {W:List Wa} (h:StA v2 w lg tv wv L T W) (hu:Same u w):StA v2 u lg tv wv L T W:=
 have c:=same_chg (F:=fun _=>False) hu
 ⟨h.kp.still c,h.lg.chg tnR_flat c (fun _ _=>id),h.t.chg tkR_flat c (fun _ _=>id),h.w.chg waR_flat c (fun _ _=>id)⟩
theorem StA.below {v2 u w:World} {lg tv wv:Value} {L:List Tn} {T:List Tk} {W:List Wa} (h:StA v2 w lg tv wv L T W) (c:Chg (fun _=>False) w u):StA v2 u lg tv wv L T W:=
 ⟨h.kp.still c,h.lg.chg tnR_flat c (fun _ _=>id),h.t.chg tkR_flat c (fun _ _=>id),h.w.chg waR_flat c (fun _ _=>id)⟩
theorem StA.appT {v2 u w2:World} {lg tv wv v1:Value} {L:List Tn} {T T':List Tk} {W:List Wa} {ob:Obj} (h:StA v2 u lg tv wv L T W) (ho:Own tkR 35 v2.heap.size w2 v1 T') (hg:(u.alloc ob).grownBy w2 tv.ownBlock):StA v2 w2 lg v1 wv L T' W:=by
 have h':=h.below (Chg.alloc (fun _=>False) u ob)
 refine⟨h'.kp.up (Chg.grown (F:=fun k=>tv.ownBlock=some k) hg (fun k e=>e)) (fun k e=>(h'.t.lt k e).1),h'.lg.kept hg (fun j hj e=> ?_) (fun _ _ h=>h),ho,h'.w.kept hg (fun j hj e=> ?_) (fun _ _ h=>h)⟩
 ·exact h'.lg.apart h'.t (by decide) _ hj e
 ·exact h'.w.apart h'.t (by decide) _ hj e
theorem StA.appW {v2 u w2:World} {lg tv wv v1:Value} {L:List Tn} {T:List Tk} {W W':List Wa} {ob:Obj} (h:StA v2 u lg tv wv L T W) (ho:Own waR 37 v2.heap.size w2 v1 W') (hg:(u.alloc ob).grownBy w2 wv.ownBlock):StA v2 w2 lg tv v1 L T W':=by
 have h':=h.below (Chg.alloc (fun _=>False) u ob)
 refine⟨h'.kp.up (Chg.grown (F:=fun k=>wv.ownBlock=some k) hg (fun k e=>e)) (fun k e=>(h'.w.lt k e).1),h'.lg.kept hg (fun j hj e=> ?_) (fun _ _ h=>h),h'.t.kept hg (fun j hj e=> ?_) (fun _ _ h=>h),ho⟩
 ·exact h'.lg.apart h'.w (by decide) _ hj e
 ·exact h'.t.apart h'.w (by decide) _ hj e
structure PlnAt (v2:World) (q:Nat) (kv fv:Value) (most:Int) (ks:List (List De)):Prop where
 box:Cells v2 q [kv,fv,.int .i64 most]
 ks:Sl dlR v2 kv ks
theorem deed_at {v2:World} {kv:Value} {ks:List (List De)} (h:Sl dlR v2 kv ks) {t:Tk} {d:De} (hd:deedAt ks t=some d) (hk:0≤t.kind) (hp:0≤t.pc):
 ∃m p kb ko kc lb lo ln lc:Nat,t.kind=(m:Int)∧t.pc=(p:Int)∧m<ks.length∧p<ln∧kv=.slice (some ⟨kb,ko,none⟩) ks.length kc∧kb<v2.heap.size∧lb<v2.heap.size∧v2.cell? ⟨kb,ko+m,none⟩=some (.slice (some ⟨lb,lo,none⟩) ln lc)∧v2.cell? ⟨lb,lo+p*4+3,none⟩=some (.int .u8 d.beg)∧0≤d.beg∧d.beg<256:=by
 unfold deedAt at hd
 obtain⟨m,hm⟩:∃m:Nat,t.kind=(m:Int):=⟨t.kind.toNat,by omega⟩
 obtain⟨p,hp2⟩:∃p:Nat,t.pc=(p:Int):=⟨t.pc.toNat,by omega⟩
 rw[hm,hp2,Int.toNat_natCast,Int.toNat_natCast] at hd
 cases hl:ks[m]? with
 |none=>rw[hl] at hd;simp at hd
 |some l=>
  rw[hl,Option.getD_some] at hd
  obtain⟨hml,hlm⟩:=List.getElem?_eq_some_iff.1 hl
  obtain⟨hpl,hdp⟩:=List.getElem?_eq_some_iff.1 hd
  obtain⟨A,kc,rfl,_,_,hh⟩:=h.open
  obtain⟨kb,ko,A',c',rfl,hkb,hc,hs⟩:=hh.atK hml
  rw[hlm] at hc hs
  obtain⟨lb,lo,cs,rfl,hlb,⟨rfl,hok⟩,hat⟩:=hs.at_ hpl
  rw[hdp] at hok hat
  exact⟨m,p,kb,ko,kc,lb,lo,l.length,c',hm,hp2,hml,hpl,rfl,hkb,hlb,hc,hat 3 _ rfl,hok.beg⟩
set_option maxRecDepth 100000 in
set_option maxHeartbeats 8000000 in
theorem grow_co {Z:Goal} {X:Fx} {v2 w:World} {s b q n0 i k gb go gc rb ro rc ub uo uc nb no nc:Nat} {tA wA:Option Addr} {tc wc:Nat} {lg kv fv:Value} {most:Int} {ks:List (List De)} {Lt:List Tn} {T:List Tk} {W:List Wa} {e:Ev} {d:De} {kk:List Item} (hZ:Z.Ok Try.prog) (hX:X.Ok Try.prog 0) (hE:EntAt v2 b n0 i e gb go gc rb ro rc ub uo uc nb no nc) (hP:PlnAt v2 q kv fv most ks)
 (hd:deedAt ks e.given=some d) (hkd:0≤e.given.kind) (hpc:0≤e.given.pc) (hT:T.length<200) (hW:W.length<200) (hk:k<200) (A:StA v2 w lg (.slice tA T.length tc) (.slice wA W.length wc) Lt T W)
 (hnext:∀(y:World) (tA2 wA2:Option Addr) (tc2 wc2:Nat),StA v2 y lg (.slice tA2 (T.length+1) tc2) (.slice wA2 (W.length+1) wc2) Lt (T++[⟨(T.length:Int)+1,d.beg%12-1,0,(k:Int)+1,0,0,0⟩]) (W++[⟨0,0,0⟩])→∀(J1 Vh Je Ji Yr D2 Qx Ya Jd Yf Dl Vf Yg Fg J0 Vo Dd Qn D1 Jb Vl Jg Fj Gu Ym Qt Vc Jv Gn Yv Vn Dn F2 Fk Vi Y1 Va Gf Yc Y9 Jy V8 V6 Q2 Gb Ys V2 J2 Fi Yq Jx Qh Dt Fw Fh Ye D0 Qc Vt Jq Vu Dc Ft Vx Yw G8 V4 Qw Fy Dw Fq Fa Du J9 Q6 J3 J7 Q7 Q9 Vy Jo Qq Jn Qd Yt Vz Jw Jf Dz Ds Ve Fl Qf G0 Yn Di Dm Vk Fc Fb Gz Df Qk Y0 F7 Qb Y5 Qi Qo Gq Gi J4 Yu Ff Qe V3 Gv F3 Yh F5 Fr Gm G1 J8 Vb G4 Y6 Gk Qp Jc F8 Y8 Fd Fe Yj Dh Vp Dg V5 Dp Gs Yx Fm Ga Qg Fn Dj Vs G6 Gl G9 Vq Qy Gx Jz Q8 V0 Yi Y3 Y7 F0 J5 G2 Yk Yl Qj Dq Qr Qz Da Fz Dy J6 Yo V1 Ja Ju Gw Fu Y4 V7 Q5 Gp F6 Dr Qs Gj Jj G3 Ql Gr Db Yy Gg Jp Fp Vr Dv Yb Gh Jr Yz Qv Fv Dk Yp Vd Vj Vv Jt Gy Jm Vm Fo Yd Vw Jh Gc F9 Qa Vg Q0 F1 Q1 Js Q4 Q3 Qu Qm Y2 V9 Jl Dx G7 G5 Fs F4 Gd Jk:Value),Co Try.prog Z 0 X (G ((Go.Conc.base 6).at ⟨#[J1,Vh,.pointer (some ⟨q,0,none⟩),Je,.bool false,.pointer (some ⟨s,0,none⟩),.pointer (some ⟨b,0,none⟩),lg,Ji,.slice tA2 (T.length+1) tc2,.slice wA2 (W.length+1) wc2,Yr,.int .i64 (i:Int),.int .i64 (k:Int),.int .i64 0,D2,Qx,Ya,Jd,Yf,Dl,Vf,Yg,Fg,J0,Vo,Dd,Qn,D1,Jb,Vl,Jg,Fj,Gu,Ym,Qt,Vc,Jv,Gn,Yv,Vn,Dn,F2,Fk,Vi,Y1,Va,Gf,Yc,Y9,Jy,V8,V6,Q2,Gb,Ys,V2,J2,Fi,Yq,Jx,Qh,Dt,Fw,Fh,Ye,D0,Qc,Vt,Jq,Vu,Dc,Ft,Vx,Yw,G8,V4,Qw,Fy,Dw,Fq,Fa,Du,J9,Q6,J3,J7,Q7,Q9,Vy,Jo,Qq,Jn,Qd,Yt,Vz,Jw,Jf,Dz,Ds,Ve,Fl,Qf,G0,Yn,Di,Dm,Vk,Fc,Fb,Gz,Df,Qk,Y0,F7,Qb,Y5,Qi,Qo,Gq,Gi,J4,Yu,Ff,Qe,V3,Gv,F3,Yh,F5,Fr,Gm,G1,J8,Vb,G4,Y6,Gk,Qp,Jc,F8,Y8,Fd,Fe,Yj,Dh,Vp,Dg,V5,Dp,Gs,Yx,Fm,Ga,Qg,Fn,Dj,Vs,G6,Gl,G9,Vq,Qy,Gx,Jz,Q8,V0,Yi,Y3,Y7,F0,J5,G2,Yk,Yl,Qj,Dq,Qr,Qz,Da,Fz,Dy,J6,Yo,V1,Ja,Ju,Gw,Fu,Y4,V7,Q5,Gp,F6,Dr,Qs,Gj,Jj,G3,Ql,Gr,Db,Yy,Gg,Jp,Fp,Vr,Dv,Yb,Gh,Jr,Yz,Qv,Fv,Dk,Yp,Vd,Vj,Vv,Jt,Gy,Jm,Vm,Fo,Yd,Vw,Jh,Gc,F9,Qa,Vg,Q0,F1,Q1,Js,Q4,Q3,Qu,Qm,Y2,V9,Jl,Dx,G7,G5,Fs,F4,Gd,Jk],[]⟩ kk) []) y)
 (J1 Vh Je Ji Yr D2 Qx Ya Jd Yf Dl Vf Yg Fg J0 Vo Dd Qn D1 Jb Vl Jg Fj Gu Ym Qt Vc Jv Gn Yv Vn Dn F2 Fk Vi Y1 Va Gf Yc Y9 Jy V8 V6 Q2 Gb Ys V2 J2 Fi Yq Jx Qh Dt Fw Fh Ye D0 Qc Vt Jq Vu Dc Ft Vx Yw G8 V4 Qw Fy Dw Fq Fa Du J9 Q6 J3 J7 Q7 Q9 Vy Jo Qq Jn Qd Yt Vz Jw Jf Dz Ds Ve Fl Qf G0 Yn Di Dm Vk Fc Fb Gz Df Qk Y0 F7 Qb Y5 Qi Qo Gq Gi J4 Yu Ff Qe V3 Gv F3 Yh F5 Fr Gm G1 J8 Vb G4 Y6 Gk Qp Jc F8 Y8 Fd Fe Yj Dh Vp Dg V5 Dp Gs Yx Fm Ga Qg Fn Dj Vs G6 Gl G9 Vq Qy Gx Jz Q8 V0 Yi Y3 Y7 F0 J5 G2 Yk Yl Qj Dq Qr Qz Da Fz Dy J6 Yo V1 Ja Ju Gw Fu Y4 V7 Q5 Gp F6 Dr Qs Gj Jj G3 Ql Gr Db Yy Gg Jp Fp Vr Dv Yb Gh Jr Yz Qv Fv Dk Yp Vd Vj Vv Jt Gy Jm Vm Fo Yd Vw Jh Gc F9 Qa Vg Q0 F1 Q1 Js Q4 Q3 Qu Qm Y2 V9 Jl Dx G7 G5 Fs F4 Gd Jk:Value):Co Try.prog Z 0 X (G ((Go.Conc.base 6).at ⟨#[J1,Vh,.pointer (some ⟨q,0,none⟩),Je,.bool false,.pointer (some ⟨s,0,none⟩),.pointer (some ⟨b,0,none⟩),lg,Ji,.slice tA T.length tc,.slice wA W.length wc,Yr,.int .i64 (i:Int),.int .i64 (k:Int),.int .i64 0,D2,Qx,Ya,Jd,Yf,Dl,Vf,Yg,Fg,J0,Vo,Dd,Qn,D1,Jb,Vl,Jg,Fj,Gu,Ym,Qt,Vc,Jv,Gn,Yv,Vn,Dn,F2,Fk,Vi,Y1,Va,Gf,Yc,Y9,Jy,V8,V6,Q2,Gb,Ys,V2,J2,Fi,Yq,Jx,Qh,Dt,Fw,Fh,Ye,D0,Qc,Vt,Jq,Vu,Dc,Ft,Vx,Yw,G8,V4,Qw,Fy,Dw,Fq,Fa,Du,J9,Q6,J3,J7,Q7,Q9,Vy,Jo,Qq,Jn,Qd,Yt,Vz,Jw,Jf,Dz,Ds,Ve,Fl,Qf,G0,Yn,Di,Dm,Vk,Fc,Fb,Gz,Df,Qk,Y0,F7,Qb,Y5,Qi,Qo,Gq,Gi,J4,Yu,Ff,Qe,V3,Gv,F3,Yh,F5,Fr,Gm,G1,J8,Vb,G4,Y6,Gk,Qp,Jc,F8,Y8,Fd,Fe,Yj,Dh,Vp,Dg,V5,Dp,Gs,Yx,Fm,Ga,Qg,Fn,Dj,Vs,G6,Gl,G9,Vq,Qy,Gx,Jz,Q8,V0,Yi,Y3,Y7,F0,J5,G2,Yk,Yl,Qj,Dq,Qr,Qz,Da,Fz,Dy,J6,Yo,V1,Ja,Ju,Gw,Fu,Y4,V7,Q5,Gp,F6,Dr,Qs,Gj,Jj,G3,Ql,Gr,Db,Yy,Gg,Jp,Fp,Vr,Dv,Yb,Gh,Jr,Yz,Qv,Fv,Dk,Yp,Vd,Vj,Vv,Jt,Gy,Jm,Vm,Fo,Yd,Vw,Jh,Gc,F9,Qa,Vg,Q0,F1,Q1,Js,Q4,Q3,Qu,Qm,Y2,V9,Jl,Dx,G7,G5,Fs,F4,Gd,Jk],[]⟩ (.code blk5::kk)) []) w:=by
 have HN:=Hd.mk hnext
 clear hnext
 obtain⟨m,p,kb,ko,kc,lb,lo,ln,lc,hm,hp,hml,hpl,rfl,hkb,hlb,hc1,hc2,hb0,hb1⟩:=deed_at hP.ks hd hkd hpc
 obtain⟨_,_,eT,t1,t2,_⟩:=A.t.form
 cases eT
 obtain⟨_,_,eW,w1,w2,_⟩:=A.w.form
 cases eW
 have HA:=Hd.mk A
 have HE:=Hd.mk hE
 have HP:=Hd.mk hP
 have hil:=hE.il
 clear A hE hP hd hkd hpc
 simp only[blk5,lb4S,bodyS,lbS,restS,body6,Try.f6,Option.getD_some,fstC,sndC,inC]
 refine co_block hZ hX ?_
 refine co_seq hZ hX ?_
 refine co_code hZ hX TT (by decide) (by kernel_rfl) (by kernel_rfl) fun K hKK u hu=> ?_
 have hkp:=HA.out.kp
 have d0:=u_cell hu (hkp.cell (HP.out.box.c 0 _ rfl) HP.out.box.lt)
 have d1:=u_cell hu (hkp.cell HE.out.g HE.out.lt)
 have d2:=u_cell hu (hkp.cell (HE.out.ga 1 _ rfl) HE.out.glt)
 have d3:=u_cell hu (hkp.cell (HE.out.ga 2 _ rfl) HE.out.glt)
 have d4:=u_cell hu (hkp.cell hc1 hkb)
 have d5:=u_cell hu (hkp.cell hc2 hlb)
 rw[hm] at d2
 rw[hp] at d3
 generalize d.beg=bg at d5 hb0 hb1 HN
 clear hkp hc1 hc2 hkb hlb hm hp
 suffices hM:∀(n:Nat) (J1 Vh Je Ji Yr Qx Ya Jd Yf Dl Vf Yg Fg J0 Vo Dd Qn D1 Jb Vl Jg Fj Gu Ym Qt Vc Jv Gn Yv Vn Dn F2 Fk Vi Y1 Va Gf Yc Y9 Jy V8 V6 Q2 Gb Ys V2 J2 Fi Yq Jx Qh Dt Fw Fh Ye D0 Qc Vt Jq Vu Dc Ft Vx Yw G8 V4 Qw Fy Dw Fq Fa Du J9 Q6 J3 J7 Q7 Q9 Vy Jo Qq Jn Qd Yt Vz Jw Jf Dz Ds Ve Fl Qf G0 Yn Di Dm Vk Fc Fb Gz Df Qk Y0 F7 Qb Y5 Qi Qo Gq Gi J4 Yu Ff Qe V3 Gv F3 Yh F5 Fr Gm G1 J8 Vb G4 Y6 Gk Qp Jc F8 Y8 Fd Fe Yj Dh Vp Dg V5 Dp Gs Yx Fm Ga Qg Fn Dj Vs G6 Gl G9 Vq Qy Gx Jz Q8 V0 Yi Y3 Y7 F0 J5 G2 Yk Yl Qj Dq Qr Qz Da Fz Dy J6 Yo V1 Ja Ju Gw Fu Y4 V7 Q5 Gp F6 Dr Qs Gj Jj G3 Ql Gr Db Yy Gg Jp Fp Vr Dv Yb Gh Jr Yz Qv Fv Dk Yp Vd Vj Vv Jt Gy Jm Vm Fo Yd Vw Jh Gc F9 Qa Vg Q0 F1 Q1 Js Q4 Q3 Qu Qm Y2 V9 Jl Dx G7 G5 Fs F4 Gd Jk:Value),K #[J1,Vh,.pointer (some ⟨q,0,none⟩),Je,.bool false,.pointer (some ⟨s,0,none⟩),.pointer (some ⟨b,0,none⟩),lg,Ji,.slice tA T.length tc,.slice wA W.length wc,Yr,.int .i64 (i:Int),.int .i64 (k:Int),.int .i64 0,.int .i64 (bg%12-1),Qx,Ya,Jd,Yf,Dl,Vf,Yg,Fg,J0,Vo,Dd,Qn,D1,Jb,Vl,Jg,Fj,Gu,Ym,Qt,Vc,Jv,Gn,Yv,Vn,Dn,F2,Fk,Vi,Y1,Va,Gf,Yc,Y9,Jy,V8,V6,Q2,Gb,Ys,V2,J2,Fi,Yq,Jx,Qh,Dt,Fw,Fh,Ye,D0,Qc,Vt,Jq,Vu,Dc,Ft,Vx,Yw,G8,V4,Qw,Fy,Dw,Fq,Fa,Du,J9,Q6,J3,J7,Q7,Q9,Vy,Jo,Qq,Jn,Qd,Yt,Vz,Jw,Jf,Dz,Ds,Ve,Fl,Qf,G0,Yn,Di,Dm,Vk,Fc,Fb,Gz,Df,Qk,Y0,F7,Qb,Y5,Qi,Qo,Gq,Gi,J4,Yu,Ff,Qe,V3,Gv,F3,Yh,F5,Fr,Gm,G1,J8,Vb,G4,Y6,Gk,Qp,Jc,F8,Y8,Fd,Fe,Yj,Dh,Vp,Dg,V5,Dp,Gs,Yx,Fm,Ga,Qg,Fn,Dj,Vs,G6,Gl,G9,Vq,Qy,Gx,Jz,Q8,V0,Yi,Y3,Y7,F0,J5,G2,Yk,Yl,Qj,Dq,Qr,Qz,Da,Fz,Dy,J6,Yo,V1,Ja,Ju,Gw,Fu,Y4,V7,Q5,Gp,F6,Dr,Qs,Gj,Jj,G3,Ql,Gr,Db,Yy,Gg,Jp,Fp,Vr,Dv,Yb,Gh,Jr,Yz,Qv,Fv,Dk,Yp,Vd,Vj,Vv,Jt,Gy,Jm,Vm,Fo,Yd,Vw,Jh,Gc,F9,Qa,Vg,Q0,F1,Q1,Js,Q4,Q3,Qu,Qm,Y2,V9,Jl,Dx,G7,G5,Fs,F4,Gd,Jk] (u.drewN n) by
  go_wp2_with fail
  go_quiet (fail)
  go_wp2_with fail
  first|exact hM ..|exact⟨by trivial,by trivial,hM ..⟩
 intro n J1 Vh Je Ji Yr Qx Ya Jd Yf Dl Vf Yg Fg J0 Vo Dd Qn D1 Jb Vl Jg Fj Gu Ym Qt Vc Jv Gn Yv Vn Dn F2 Fk Vi Y1 Va Gf Yc Y9 Jy V8 V6 Q2 Gb Ys V2 J2 Fi Yq Jx Qh Dt Fw Fh Ye D0 Qc Vt Jq Vu Dc Ft Vx Yw G8 V4 Qw Fy Dw Fq Fa Du J9 Q6 J3 J7 Q7 Q9 Vy Jo Qq Jn Qd Yt Vz Jw Jf Dz Ds Ve Fl Qf G0 Yn Di Dm Vk Fc Fb Gz Df Qk Y0 F7 Qb Y5 Qi Qo Gq Gi J4 Yu Ff Qe V3 Gv F3 Yh F5 Fr Gm G1 J8 Vb G4 Y6 Gk Qp Jc F8 Y8 Fd Fe Yj Dh Vp Dg V5 Dp Gs Yx Fm Ga Qg Fn Dj Vs G6 Gl G9 Vq Qy Gx Jz Q8 V0 Yi Y3 Y7 F0 J5 G2 Yk Yl Qj Dq Qr Qz Da Fz Dy J6 Yo V1 Ja Ju Gw Fu Y4 V7 Q5 Gp F6 Dr Qs Gj Jj G3 Ql Gr Db Yy Gg Jp Fp Vr Dv Yb Gh Jr Yz Qv Fv Dk Yp Vd Vj Vv Jt Gy Jm Vm Fo Yd Vw Jh Gc F9 Qa Vg Q0 F1 Q1 Js Q4 Q3 Qu Qm Y2 V9 Jl Dx G7 G5 Fs F4 Gd Jk
 refine hKK.out _ _ (co_same (v:=w) ⟨hu.heap,hu.os,hu.output⟩ ?_)
 clear hKK K hu d0 d1 d2 d3 d4 d5 u n
 refine co_seq hZ hX ?_
 refine co_code hZ hX TT (by decide) (by kernel_rfl) (by kernel_rfl) fun K hKK u hu=> ?_
 have HA2:=Hd.mk (HA.out.same hu)
 have hle:v2.heap.size≤u.heap.size:=HA2.out.kp.le
 clear hu
 suffices hM:∀w2 tA2 tc2,StA v2 w2 lg (.slice tA2 (T.length+1) tc2) (.slice wA W.length wc) Lt (T++[⟨(T.length:Int)+1,bg%12-1,0,(k:Int)+1,0,0,0⟩]) W→∀(J1 Vh Je Ji Yr Qx Ya Jd Yf Dl Vf Yg Fg J0 Vo Dd Qn D1 Jb Vl Jg Fj Gu Ym Qt Vc Jv Gn Yv Vn Dn F2 Fk Vi Y1 Va Gf Yc Y9 Jy V8 V6 Q2 Gb Ys V2 J2 Fi Yq Jx Qh Dt Fw Fh Ye D0 Qc Vt Jq Vu Dc Ft Vx Yw G8 V4 Qw Fy Dw Fq Fa Du J9 Q6 J3 J7 Q7 Q9 Vy Jo Qq Jn Qd Yt Vz Jw Jf Dz Ds Ve Fl Qf G0 Yn Di Dm Vk Fc Fb Gz Df Qk Y0 F7 Qb Y5 Qi Qo Gq Gi J4 Yu Ff Qe V3 Gv F3 Yh F5 Fr Gm G1 J8 Vb G4 Y6 Gk Qp Jc F8 Y8 Fd Fe Yj Dh Vp Dg V5 Dp Gs Yx Fm Ga Qg Fn Dj Vs G6 Gl G9 Vq Qy Gx Jz Q8 V0 Yi Y3 Y7 F0 J5 G2 Yk Yl Qj Dq Qr Qz Da Fz Dy J6 Yo V1 Ja Ju Gw Fu Y4 V7 Q5 Gp F6 Dr Qs Gj Jj G3 Ql Gr Db Yy Gg Jp Fp Vr Dv Yb Gh Jr Yz Qv Fv Dk Yp Vd Vj Vv Jt Gy Jm Vm Fo Yd Vw Jh Gc F9 Qa Vg Q0 F1 Q1 Js Q4 Q3 Qu Qm Y2 V9 Jl Dx G7 G5 Fs F4 Gd Jk:Value),K #[J1,Vh,.pointer (some ⟨q,0,none⟩),Je,.bool false,.pointer (some ⟨s,0,none⟩),.pointer (some ⟨b,0,none⟩),lg,Ji,.slice tA2 (T.length+1) tc2,.slice wA W.length wc,Yr,.int .i64 (i:Int),.int .i64 (k:Int),.int .i64 0,.int .i64 (bg%12-1),Qx,Ya,Jd,Yf,Dl,Vf,Yg,Fg,J0,Vo,Dd,Qn,D1,Jb,Vl,Jg,Fj,Gu,Ym,Qt,Vc,Jv,Gn,Yv,Vn,Dn,F2,Fk,Vi,Y1,Va,Gf,Yc,Y9,Jy,V8,V6,Q2,Gb,Ys,V2,J2,Fi,Yq,Jx,Qh,Dt,Fw,Fh,Ye,D0,Qc,Vt,Jq,Vu,Dc,Ft,Vx,Yw,G8,V4,Qw,Fy,Dw,Fq,Fa,Du,J9,Q6,J3,J7,Q7,Q9,Vy,Jo,Qq,Jn,Qd,Yt,Vz,Jw,Jf,Dz,Ds,Ve,Fl,Qf,G0,Yn,Di,Dm,Vk,Fc,Fb,Gz,Df,Qk,Y0,F7,Qb,Y5,Qi,Qo,Gq,Gi,J4,Yu,Ff,Qe,V3,Gv,F3,Yh,F5,Fr,Gm,G1,J8,Vb,G4,Y6,Gk,Qp,Jc,F8,Y8,Fd,Fe,Yj,Dh,Vp,Dg,V5,Dp,Gs,Yx,Fm,Ga,Qg,Fn,Dj,Vs,G6,Gl,G9,Vq,Qy,Gx,Jz,Q8,V0,Yi,Y3,Y7,F0,J5,G2,Yk,Yl,Qj,Dq,Qr,Qz,Da,Fz,Dy,J6,Yo,V1,Ja,Ju,Gw,Fu,Y4,V7,Q5,Gp,F6,Dr,Qs,Gj,Jj,G3,Ql,Gr,Db,Yy,Gg,Jp,Fp,Vr,Dv,Yb,Gh,Jr,Yz,Qv,Fv,Dk,Yp,Vd,Vj,Vv,Jt,Gy,Jm,Vm,Fo,Yd,Vw,Jh,Gc,F9,Qa,Vg,Q0,F1,Q1,Js,Q4,Q3,Qu,Qm,Y2,V9,Jl,Dx,G7,G5,Fs,F4,Gd,Jk] w2 by
  have HM:=Hd.mk hM
  clear hM hKK
  go_wp2_with (at_builtin;refine wpList_append_sl _ rfl (.tmp 187) (.tmp 195) 69 rfl tkR v2.heap.size 35 _ 56 Try.underlying69 infoK rfl (by decide) _ T rfl (HA2.out.t.up (ba _ _)) _ [⟨(T.length:Int)+1,bg%12-1,0,(k:Int)+1,0,0,0⟩] rfl (slK_one _ _ ⟨(T.length:Int)+1,bg%12-1,0,(k:Int)+1,0,0,0⟩ _ rfl) (by simp;omega) (by decide) (by simp;exact Nat.le_succ_of_le hle) (fun w' _ cs y h=>tkR_flat _ _ _ _ h) ?_;intro v1 y1 hown1 hg1 hv1;obtain⟨vA,vc,rfl,_,_,_⟩:=hown1.form;have AA:=Lib.hid (HA2.out.appT hown1 hg1);clear hown1 hg1 hv1)
  have AB:=AA.out
  simp only[List.length_append,List.length_singleton] at AB⊢
  first|exact HM.out _ _ _ AB ..|exact⟨by trivial,by trivial,HM.out _ _ _ AB ..⟩
 intro w2 tA2 tc2 A2 J1 Vh Je Ji Yr Qx Ya Jd Yf Dl Vf Yg Fg J0 Vo Dd Qn D1 Jb Vl Jg Fj Gu Ym Qt Vc Jv Gn Yv Vn Dn F2 Fk Vi Y1 Va Gf Yc Y9 Jy V8 V6 Q2 Gb Ys V2 J2 Fi Yq Jx Qh Dt Fw Fh Ye D0 Qc Vt Jq Vu Dc Ft Vx Yw G8 V4 Qw Fy Dw Fq Fa Du J9 Q6 J3 J7 Q7 Q9 Vy Jo Qq Jn Qd Yt Vz Jw Jf Dz Ds Ve Fl Qf G0 Yn Di Dm Vk Fc Fb Gz Df Qk Y0 F7 Qb Y5 Qi Qo Gq Gi J4 Yu Ff Qe V3 Gv F3 Yh F5 Fr Gm G1 J8 Vb G4 Y6 Gk Qp Jc F8 Y8 Fd Fe Yj Dh Vp Dg V5 Dp Gs Yx Fm Ga Qg Fn Dj Vs G6 Gl G9 Vq Qy Gx Jz Q8 V0 Yi Y3 Y7 F0 J5 G2 Yk Yl Qj Dq Qr Qz Da Fz Dy J6 Yo V1 Ja Ju Gw Fu Y4 V7 Q5 Gp F6 Dr Qs Gj Jj G3 Ql Gr Db Yy Gg Jp Fp Vr Dv Yb Gh Jr Yz Qv Fv Dk Yp Vd Vj Vv Jt Gy Jm Vm Fo Yd Vw Jh Gc F9 Qa Vg Q0 F1 Q1 Js Q4 Q3 Qu Qm Y2 V9 Jl Dx G7 G5 Fs F4 Gd Jk
 refine hKK.out _ _ ?_
 clear hKK K HA2 HA hle u
 have HA:=Hd.mk A2
 obtain⟨_,_,eT,t1,t2,_⟩:=A2.t.form
 clear A2
 refine co_code hZ hX TT (by decide) (by kernel_rfl) (by kernel_rfl) fun K hKK u hu=> ?_
 have HA2:=Hd.mk (HA.out.same hu)
 have hle:v2.heap.size≤u.heap.size:=HA2.out.kp.le
 clear hu eT t1 t2
 suffices hM:∀w3 wA2 wc2,StA v2 w3 lg (.slice tA2 (T.length+1) tc2) (.slice wA2 (W.length+1) wc2) Lt (T++[⟨(T.length:Int)+1,bg%12-1,0,(k:Int)+1,0,0,0⟩]) (W++[⟨0,0,0⟩])→∀(J1 Vh Je Ji Yr D2 Qx Ya Jd Yf Dl Vf Yg Fg J0 Vo Dd Qn D1 Jb Vl Jg Fj Gu Ym Qt Vc Jv Gn Yv Vn Dn F2 Fk Vi Y1 Va Gf Yc Y9 Jy V8 V6 Q2 Gb Ys V2 J2 Fi Yq Jx Qh Dt Fw Fh Ye D0 Qc Vt Jq Vu Dc Ft Vx Yw G8 V4 Qw Fy Dw Fq Fa Du J9 Q6 J3 J7 Q7 Q9 Vy Jo Qq Jn Qd Yt Vz Jw Jf Dz Ds Ve Fl Qf G0 Yn Di Dm Vk Fc Fb Gz Df Qk Y0 F7 Qb Y5 Qi Qo Gq Gi J4 Yu Ff Qe V3 Gv F3 Yh F5 Fr Gm G1 J8 Vb G4 Y6 Gk Qp Jc F8 Y8 Fd Fe Yj Dh Vp Dg V5 Dp Gs Yx Fm Ga Qg Fn Dj Vs G6 Gl G9 Vq Qy Gx Jz Q8 V0 Yi Y3 Y7 F0 J5 G2 Yk Yl Qj Dq Qr Qz Da Fz Dy J6 Yo V1 Ja Ju Gw Fu Y4 V7 Q5 Gp F6 Dr Qs Gj Jj G3 Ql Gr Db Yy Gg Jp Fp Vr Dv Yb Gh Jr Yz Qv Fv Dk Yp Vd Vj Vv Jt Gy Jm Vm Fo Yd Vw Jh Gc F9 Qa Vg Q0 F1 Q1 Js Q4 Q3 Qu Qm Y2 V9 Jl Dx G7 G5 Fs F4 Gd Jk:Value),K #[J1,Vh,.pointer (some ⟨q,0,none⟩),Je,.bool false,.pointer (some ⟨s,0,none⟩),.pointer (some ⟨b,0,none⟩),lg,Ji,.slice tA2 (T.length+1) tc2,.slice wA2 (W.length+1) wc2,Yr,.int .i64 (i:Int),.int .i64 (k:Int),.int .i64 0,D2,Qx,Ya,Jd,Yf,Dl,Vf,Yg,Fg,J0,Vo,Dd,Qn,D1,Jb,Vl,Jg,Fj,Gu,Ym,Qt,Vc,Jv,Gn,Yv,Vn,Dn,F2,Fk,Vi,Y1,Va,Gf,Yc,Y9,Jy,V8,V6,Q2,Gb,Ys,V2,J2,Fi,Yq,Jx,Qh,Dt,Fw,Fh,Ye,D0,Qc,Vt,Jq,Vu,Dc,Ft,Vx,Yw,G8,V4,Qw,Fy,Dw,Fq,Fa,Du,J9,Q6,J3,J7,Q7,Q9,Vy,Jo,Qq,Jn,Qd,Yt,Vz,Jw,Jf,Dz,Ds,Ve,Fl,Qf,G0,Yn,Di,Dm,Vk,Fc,Fb,Gz,Df,Qk,Y0,F7,Qb,Y5,Qi,Qo,Gq,Gi,J4,Yu,Ff,Qe,V3,Gv,F3,Yh,F5,Fr,Gm,G1,J8,Vb,G4,Y6,Gk,Qp,Jc,F8,Y8,Fd,Fe,Yj,Dh,Vp,Dg,V5,Dp,Gs,Yx,Fm,Ga,Qg,Fn,Dj,Vs,G6,Gl,G9,Vq,Qy,Gx,Jz,Q8,V0,Yi,Y3,Y7,F0,J5,G2,Yk,Yl,Qj,Dq,Qr,Qz,Da,Fz,Dy,J6,Yo,V1,Ja,Ju,Gw,Fu,Y4,V7,Q5,Gp,F6,Dr,Qs,Gj,Jj,G3,Ql,Gr,Db,Yy,Gg,Jp,Fp,Vr,Dv,Yb,Gh,Jr,Yz,Qv,Fv,Dk,Yp,Vd,Vj,Vv,Jt,Gy,Jm,Vm,Fo,Yd,Vw,Jh,Gc,F9,Qa,Vg,Q0,F1,Q1,Js,Q4,Q3,Qu,Qm,Y2,V9,Jl,Dx,G7,G5,Fs,F4,Gd,Jk] w3 by
  have HM:=Hd.mk hM
  clear hM hKK
  go_wp2_with (at_builtin;refine wpList_append_sl _ rfl (.tmp 197) (.tmp 199) 74 rfl waR v2.heap.size 37 _ 24 Try.underlying74 infoWa rfl (by decide) _ W rfl (HA2.out.w.up (ba _ _)) _ [⟨0,0,0⟩] rfl (slW_one _ _ ⟨0,0,0⟩ _ rfl) (by simp;omega) (by decide) (by simp;exact Nat.le_succ_of_le hle) (fun w' _ cs y h=>waR_flat _ _ _ _ h) ?_;intro v1 y1 hown1 hg1 hv1;obtain⟨vA,vc,rfl,_,_,_⟩:=hown1.form;have AA:=Lib.hid (HA2.out.appW hown1 hg1);clear hown1 hg1 hv1)
  have AB:=AA.out
  simp only[List.length_append,List.length_singleton] at AB⊢
  first|exact HM.out _ _ _ AB ..|exact⟨by trivial,by trivial,HM.out _ _ _ AB ..⟩
 intro w3 wA2 wc2 A3 J1 Vh Je Ji Yr D2 Qx Ya Jd Yf Dl Vf Yg Fg J0 Vo Dd Qn D1 Jb Vl Jg Fj Gu Ym Qt Vc Jv Gn Yv Vn Dn F2 Fk Vi Y1 Va Gf Yc Y9 Jy V8 V6 Q2 Gb Ys V2 J2 Fi Yq Jx Qh Dt Fw Fh Ye D0 Qc Vt Jq Vu Dc Ft Vx Yw G8 V4 Qw Fy Dw Fq Fa Du J9 Q6 J3 J7 Q7 Q9 Vy Jo Qq Jn Qd Yt Vz Jw Jf Dz Ds Ve Fl Qf G0 Yn Di Dm Vk Fc Fb Gz Df Qk Y0 F7 Qb Y5 Qi Qo Gq Gi J4 Yu Ff Qe V3 Gv F3 Yh F5 Fr Gm G1 J8 Vb G4 Y6 Gk Qp Jc F8 Y8 Fd Fe Yj Dh Vp Dg V5 Dp Gs Yx Fm Ga Qg Fn Dj Vs G6 Gl G9 Vq Qy Gx Jz Q8 V0 Yi Y3 Y7 F0 J5 G2 Yk Yl Qj Dq Qr Qz Da Fz Dy J6 Yo V1 Ja Ju Gw Fu Y4 V7 Q5 Gp F6 Dr Qs Gj Jj G3 Ql Gr Db Yy Gg Jp Fp Vr Dv Yb Gh Jr Yz Qv Fv Dk Yp Vd Vj Vv Jt Gy Jm Vm Fo Yd Vw Jh Gc F9 Qa Vg Q0 F1 Q1 Js Q4 Q3 Qu Qm Y2 V9 Jl Dx G7 G5 Fs F4 Gd Jk
 refine hKK.out _ _ ?_
 clear hKK K HA2 HA hle u
 refine co_inBlock hZ hX ?_
 exact HN.out w3 tA2 wA2 tc2 wc2 A3 _ _ _ _ _ _ _ _ _ _ _ _ _ _ _ _ _ _ _ _ _ _ _ _ _ _ _ _ _ _ _ _ _ _ _ _ _ _ _ _ _ _ _ _ _ _ _ _ _ _ _ _ _ _ _ _ _ _ _ _ _ _ _ _ _ _ _ _ _ _ _ _ _ _ _ _ _ _ _ _ _ _ _ _ _ _ _ _ _ _ _ _ _ _ _ _ _ _ _ _ _ _ _ _ _ _ _ _ _ _ _ _ _ _ _ _ _ _ _ _ _ _ _ _ _ _ _ _ _ _ _ _ _ _ _ _ _ _ _ _ _ _ _ _ _ _ _ _ _ _ _ _ _ _ _ _ _ _ _ _ _ _ _ _ _ _ _ _ _ _ _ _ _ _ _ _ _ _ _ _ _ _ _ _ _ _ _ _ _ _ _ _ _ _ _ _ _ _ _ _ _ _ _ _ _ _ _ _ _ _ _ _ _ _ _ _ _ _ _ _ _ _ _ _ _ _ _ _ _ _ _ _ _ _ _ _ _ _ _
end Co
end Go.Proofs.Ytlngbdggehghgaa

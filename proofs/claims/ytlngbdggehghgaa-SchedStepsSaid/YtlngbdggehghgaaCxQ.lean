/-
  A turn is given, in company, in whatever world of tasks. Conditions: as each theorem says.
  Pick, in company. Conditions: as each theorem says.
-/
import Derived.Test.YtlngbdggehghgaaCxO
namespace Go.Proofs.Ytlngbdggehghgaa
set_option linter.unusedSimpArgs false
set_option linter.unusedVariables false
structure Wd where
 o:Option Nat
 mem:RW→(Nat→Prop)→World→Prop
 st:RW→Tk→Tk×Wa×List Tk×RW
 inv:RW→SS→Prop
def agedL (L:List Nat) (i:Nat) (rs:List Ru):List Ru:=rs.mapIdx fun k r=>agedR L i k r
def giveS (D:Wd) (S:SS) (x:RW) (L:List Nat) (i:Nat):SS×RW:=match S.rs[i]? with
 |none=>(S,x)
 |some r=>(begS ⟨(agedL L i S.rs).set i ⟨{(D.st x r.task).1 with id:=r.task.id},(D.st x r.task).2.1,0⟩,S.turns++[⟨r.task.id,r.wait,L.length⟩],S.most,S.closed⟩ (D.st x r.task).2.2.1,(D.st x r.task).2.2.2)
structure StepQ (D:Wd) (x:RW) (F:Nat→Prop) (t:Tk) (l:Value) (w w':World):Prop where
 form:∃A n c,l=.slice A n c
 chg:Chg F w w'
 len:(D.st x t).2.2.1.length≤1000000
 list:Sl tkR w' l (D.st x t).2.2.1
 far:∀k,l.ownBlock=some k→w.heap.size≤k∧k<w'.heap.size
 mem:∃F':Nat→Prop,D.mem (D.st x t).2.2.2 F' w'∧(∀k,F' k→F k∨w.heap.size≤k)
namespace Co
open Go.Conc Go.RowKit
structure Wd.Ok (D:Wd):Prop where
 keep:∀{x:RW} {F G:Nat→Prop} {w w':World},D.mem x F w→Chg G w w'→(∀k,F k→¬G k)→D.mem x F w'
 lt:∀{x:RW} {F:Nat→Prop} {w:World},D.mem x F w→∀k,F k→k<w.heap.size
 en:∀{x:RW} {F:Nat→Prop} {w:World},D.mem x F w→EnOk D.o x w
 obj:∀{x:RW} {S:SS},D.inv x S→∀r∈S.rs,0≤r.wait.obj
 step:∀{x:RW} {F:Nat→Prop} {w:World} {S:SS} {i:Nat} {r:Ru},D.mem x F w→D.inv x S→S.Ok→S.rs[i]?=some r→(S.turns.length:Int)<S.most→StepC D.o r.task (D.st x r.task).1 (D.st x r.task).2.1 (StepQ D x F r.task) w
 next:∀{x:RW} {S:SS} {L:List Nat} {i:Nat},D.inv x S→S.Ok→i<S.rs.length→(S.turns.length:Int)<S.most→D.inv (giveS D S x L i).2 (giveS D S x L i).1
def Sch (D:Wd) (B:Nat) (g:Gh) (s:Nat) (bs:List Nat) (S:SS) (x:RW) (M:Nat→Prop) (v:World):Prop:=
 ∃(tv uv:Value) (F:Nat→Prop),Crew g s bs∧SM D.o B s bs tv uv S v∧D.mem x F v∧(∀k,F k→¬SMf s bs tv uv k)∧D.inv x S∧∀k,SMf s bs tv uv k∨F k→M k
theorem Sch.chg {D:Wd} (hD:Wd.Ok D) {B s:Nat} {g:Gh} {bs:List Nat} {S:SS} {x:RW} {M G:Nat→Prop} {v w:World} (h:Sch D B g s bs S x M v) (c:Chg G v w) (hG:∀k,M k→¬G k):Sch D B g s bs S x M w:=by
 obtain⟨tv,uv,F,h1,h2,h3,h4,h5,h6⟩:=h
 exact⟨tv,uv,F,h1,h2.chg c fun k hk=>hG k (h6 k (.inl hk)),hD.keep h3 c fun k hk=>hG k (h6 k (.inr hk)),h4,h5,h6⟩
def GiveQ (D:Wd) (B s:Nat) (bs:List Nat) (S':SS) (x':RW) (M:Nat→Prop) (v:World) (e:Value) (X':Fx) (v':World):Prop:=
 e=.tuple #[]∧∃(g':Gh) (bs':List Nat) (M':Nat→Prop),X'=g'.fx Try.prog κL 0∧Sch D B g' s bs' S' x' M' v'∧Chg M v v'∧(∀k,M' k→M k∨v.heap.size≤k)∧∃new,bs'=bs++new
theorem Crew.seat {g:Gh} {s:Nat} {bs:List Nat} (c:Crew g s bs) {i b:Nat} (hb:bs[i]?=some b):∃x∈g.rs,x.r=b∧x.i≠0∧x.i<g.n∧g.seat κL x.i=some (κL.seat g.s x):=by
 have h1:=c.rs
 rw[←h1,List.getElem?_map] at hb
 obtain⟨x,hx,e⟩:=Option.map_eq_some_iff.1 hb
 have hxm:x∈g.rs:=List.mem_of_getElem? hx
 have hsit:g.sit=g.rs:=by unfold Gh.sit;rw[c.up,c.off];simp
 have hx0:=c.ok.pos x hxm
 refine⟨x,hxm,e,hx0,c.ok.num x (by rw[c.up];simpa using hxm), ?_⟩
 unfold Gh.seat
 rw[if_neg hx0,hsit]
 have:g.rs.find? (·.i==x.i)=some x:=by
  have hex:(g.rs.find? (·.i==x.i)).isSome:=List.find?_isSome.2 ⟨x,hxm,by simp⟩
  obtain⟨y,hy⟩:=Option.isSome_iff_exists.1 hex
  have hyi:y.i=x.i:=by simpa using List.find?_some hy
  rw[hy,map_inj c.ok.inj (List.mem_of_find?_eq_some hy) hxm hyi]
 rw[this]
 rfl
theorem SM.turned {o:Option Nat} {B s i:Nat} {bs:List Nat} {tv uv uv':Value} {S:SS} {v w:World} {L:List Nat} {r:Ru} {t':Tk} {q':Wa} (h:SM o B s bs tv uv S v) (hi:S.rs[i]?=some r) (hturn:(S.turns.length:Int)<S.most)
 (box:Cells w s [WV o,tv,uv',.int .i64 S.most,.bool S.closed]) (tasks:Own ptR 98 B w tv bs) (turns:Own tnR 79 B w uv' (S.turns++[⟨r.task.id,r.wait,L.length⟩]))
 (runs:∀(k b:Nat) (r:Ru),k≠i→bs[k]?=some b→S.rs[k]?=some r→Cells w b (agedR L i k r).cells) (me:∀b,bs[i]?=some b→Cells w b (⟨{t' with id:=r.task.id},q',0⟩:Ru).cells)
 (aq:∀k,uv'.ownBlock=some k→k≠s∧k∉bs):
 SM o B s bs tv uv' ⟨(agedL L i S.rs).set i ⟨{t' with id:=r.task.id},q',0⟩,S.turns++[⟨r.task.id,r.wait,L.length⟩],S.most,S.closed⟩ w:=by
 have hil:i<S.rs.length:=(List.getElem?_eq_some_iff.1 hi).1
 have hget:∀(k:Nat),((agedL L i S.rs).set i ⟨{t' with id:=r.task.id},q',0⟩)[k]?=if k=i then some ⟨{t' with id:=r.task.id},q',0⟩ else(S.rs[k]?).map (agedR L i k):=by
  intro k
  rw[List.getElem?_set]
  by_cases e:i=k
  ·subst e
   simp[agedL,hil]
  ·rw[if_neg e,if_neg (Ne.symm e)]
   simp[agedL]
 refine⟨box,tasks,turns,by simp[agedL,h.len],fun k b ru hb hru=> ?_,h.nd,h.sB,h.bB,h.sb,h.ap,aq,⟨by simp[agedL];exact h.ok.few,h.ok.most,by simp;omega,fun ru hru=> ?_,fun k ru hru=> ?_⟩⟩
 ·rw[hget] at hru
  by_cases e:k=i
  ·rw[if_pos e] at hru
   obtain rfl:=Option.some.inj hru
   exact me b (e▸hb)
  ·rw[if_neg e] at hru
   obtain⟨r0,h1,rfl⟩:=Option.map_eq_some_iff.1 hru
   exact runs k b r0 e hb h1
 ·obtain⟨k,hk⟩:=List.getElem?_of_mem hru
  rw[hget] at hk
  show 0≤ru.age∧ru.age≤((S.turns++[_]).length:Int)
  rw[List.length_append]
  by_cases e:k=i
  ·rw[if_pos e] at hk
   obtain rfl:=Option.some.inj hk
   simp;omega
  ·rw[if_neg e] at hk
   obtain⟨r0,h1,rfl⟩:=Option.map_eq_some_iff.1 hk
   have h2:=h.ok.age r0 (List.mem_of_getElem? h1)
   unfold agedR
   simp only[e,if_false,List.length_cons,List.length_nil]
   split<;>omega
 ·rw[hget] at hru
  by_cases e:k=i
  ·rw[if_pos e] at hru
   obtain rfl:=Option.some.inj hru
   subst e
   exact h.ok.ids k r hi
  ·rw[if_neg e] at hru
   obtain⟨r0,h1,rfl⟩:=Option.map_eq_some_iff.1 hru
   exact h.ok.ids k r0 h1
set_option maxRecDepth 100000 in
set_option maxHeartbeats 4000000 in
theorem give_co {Z:Goal} {D:Wd} {g:Gh} {B s b i:Nat} {bs:List Nat} {lv:Value} {S:SS} {x:RW} {M:Nat→Prop} {v:World} {L:List Nat} (hD:Wd.Ok D) (hZ:Z.Ok Try.prog) (h:Sch D B g s bs S x M v)
 (hl:Sl ptR v lv (bxs bs L)) (hL:∀i∈L,i<S.rs.length) (hLl:L.length≤200) (hb:bs[i]?=some b) (hlv:∀k,lv.ownBlock=some k→k∉bs) (hturn:(S.turns.length:Int)<S.most):
 Calls Try.prog Z 0 (g.fx Try.prog κL 0) 32 #[.pointer (some ⟨s,0,none⟩),lv,.pointer (some ⟨b,0,none⟩)] v (GiveQ D B s bs (giveS D S x L i).1 (giveS D S x L i).2 M v):=by
 intro c cs hpost
 obtain⟨tv,uv,F,cr,hS,hm,hsep,hinv,hM⟩:=h
 have hX:=cr.ok.fx κL_ok
 obtain⟨xk,hxm,hxr,hx0,hxn,hseat⟩:=cr.seat hb
 have hil:i<S.rs.length:=by have:=(List.getElem?_eq_some_iff.1 hb).1;rw[hS.len] at this;exact this
 have hri:S.rs[i]?=some S.rs[i]:=List.getElem?_eq_getElem hil
 generalize hr:S.rs[i]=r at hri
 have hgs:=cr.s
 have hF:=hD.lt hm
 have hbm:b∈bs:=List.mem_of_getElem? hb
 have hbF:¬F b:=fun e=>hsep b e (.inr (.inl hbm))
 have hsF:¬F s:=fun e=>hsep s e (.inl rfl)
 have hbs:b≠s:=fun e=>hS.sb (e▸hbm)
 rw[enter_at _ Try.func32 (by kernel_rfl:Try.f32.body=some body32)]
 have e32:body32=.seq (fstC body32) (.seq reg7 rest8):=by simp only[reg7,rest8,body32,Try.f32,Option.getD_some,fstC,sndC]
 rw[e32]
 refine co_seq hZ hX ?_
 rw[Try.ntmps32]
 walk_nrm
 refine give_ages hZ hX hS hl hL hLl hb hlv (fun v1 Jc Yl Qf Qo Yz Qr Yq Y5 Jy Jp Yw Jo J3 Yb Jr Jb Ju Qj Yi Jv Y0 Jk Yn Qi J7 Qq Ja Yk Jd Y3 Qe Jw J9 Yh Jh Qd J0 Ym Qk Qa Y4 Yj J2 Yg Qc Js J4 Jj Yx Yv Yc Qb Jz Yt Jl Y2 Jx Ji J6 Ql Y8 Y1 Jt Qp J5 Yo Jg Yp Qh Y7 Yr J1 Qg Yu Ya Y9 Qn Y6 Yy Qm Jq Yd Jm Jn Ye Yf Ys Jf J8 Je c1 k1=> ?_) _ _ _ _ _ _ _ _ _ _ _ _ _ _ _ _ _ _ _ _ _ _ _ _ _ _ _ _ _ _ _ _ _ _ _ _ _ _ _ _ _ _ _ _ _ _ _ _ _ _ _ _ _ _ _ _ _ _ _ _ _ _ _ _ _ _ _ _ _ _ _ _ _ _ _ _ _ _ _ _ _ _ _ _ _ _ _ _ _ _
 refine co_seq hZ hX ?_
 have slt:=hS.box.lt
 have box1:=hS.box.chg c1 hS.sb
 have own1:=hS.turns.chg tnR_flat c1 (fun k hk=>(hS.aq k hk).2)
 have task1:=hS.tasks.chg ptR_flat c1 (fun k hk=>(hS.ap k hk).2)
 have kr:=k1 i b r hb hri
 have hnl:∃A c,lv=.slice A L.length c:=by
  obtain⟨A,c,e,_⟩:=hl.open
  exact⟨A,c,by rw[e];simp[bxs]⟩
 refine give_turn hZ hX box1 own1 kr hnl (Nat.le_of_lt (Nat.lt_of_le_of_lt hS.sB box1.lt)) hbs (fun e=>(hS.aq s e).1 rfl) (fun e=>(hS.aq b e).2 hbm) (by have:=hS.ok.most;omega) (fun v2 uv' Jc Yl Qf Qo Yz Qr Yq Y5 Jy Jp Yw Jo J3 Yb Jr Jb Ju Qj Yi Jv Y0 Jk Yn Qi J7 Qq Ja Yk Jd Y3 Qe Jw J9 Yh Jh Qd J0 Ym Qk Qa Y4 Yj J2 Yg Qc Js J4 Jj Yx Yv Yc Qb Jz Yt Jl Y2 Jx Ji J6 Ql Y8 Y1 Jt Qp J5 Yo Jg Yp Qh Y7 Yr J1 Qg Yu Ya Y9 Qn Y6 Yy Qm Jq Yd Jm Jn Ye Yf Ys Jf J8 Je box2 own2 huv c2=> ?_) _ _ _ _ _ _ _ _ _ _ _ _ _ _ _ _ _ _ _ _ _ _ _ _ _ _ _ _ _ _ _ _ _ _ _ _ _ _ _ _ _ _ _ _ _ _ _ _ _ _ _ _ _ _ _ _ _ _ _ _ _ _ _ _ _ _ _ _ _ _ _ _ _ _ _ _ _ _ _ _ _ _ _ _ _ _ _ _ _ _
 have c02:Chg (fun k=>k∈bs∨k=s∨uv.ownBlock=some k) v v2:=(c1.mono (fun _ _=>Or.inl)).trans c2 (fun _ _=>Or.inr)
 have kb2:=kr.chg c2 (fun e=>e.elim hbs (fun e=>(hS.aq b e).2 hbm))
 have hm2:=hD.keep hm c02 (fun k hk e=>by
  rcases e with e|e|e
  ·exact hsep k hk (.inr (.inl e))
  ·exact hsep k hk (.inl e)
  ·exact hsep k hk (.inr (.inr (.inr e))))
 subst hgs
 subst hxr
 refine give_hand (x:=xk) (o:=D.o) (r:=agedR L i i r) (t':=(D.st x r.task).1) (q':=(D.st x r.task).2.1) (Post:=StepQ D x F r.task) (F:=F) hZ cr.ok cr.off cr.ear cr.pos cr.m0 hxm hx0 hxn hseat kb2 (box2.c 0 _ rfl)
  (fun W hW=>hD.step (r:=r) (hD.keep hm2 hW (fun _ _=>id)) hinv hS.ok hri hturn) (fun l W w' hq=>hq.chg) (fun l W w' hq=>hq.form) (fun k hk=>Nat.lt_of_lt_of_le (hF k hk) c02.size) hsF (fun W w' v3 l d d8 Jc Yl Qf Qo Yz Yq Y5 Jy Jp Yw Jo J3 Yb Jr Jb Ju Qj Yi Jv Y0 Jk Yn Qi J7 Qq Ja Yk Jd Y3 Qe Jw J9 Yh Jh Qd J0 Ym Qk Qa Y4 Yj J2 Yg Qc Js J4 Jj Yx Yv Yc Qb Jz Yt Jl Y2 Jx Ji J6 Ql Y8 Y1 Jt Qp J5 Yo Jg Yp Qh Y7 Yr J1 Qg Yu Ya Y9 Qn Y6 Yy Qm Jq Yd Jm Jn Ye Yf Ys Jf J8 Je hW hq hd1 hd2 hd8 c3 k8=> ?_) _ _ _ _ _ _ _ _ _ _ _ _ _ _ _ _ _ _ _ _ _ _ _ _ _ _ _ _ _ _ _ _ _ _ _ _ _ _ _ _ _ _ _ _ _ _ _ _ _ _ _ _ _ _ _ _ _ _ _ _ _ _ _ _ _ _ _ _ _ _ _ _ _ _ _ _ _ _ _ _ _ _ _ _ _ _ _ _ _ _
 obtain⟨lA,ln,lc,rfl⟩:=hq.form
 obtain⟨F',hm',hF'⟩:=hq.mem
 have hFl':=hD.lt hm'
 have c23:Chg F v2 v3:=((hW.mono (fun _ _ e=>e.elim)).trans hq.chg (fun _ _=>id)).trans c3 (fun k hk e=>by omega)
 have hb2:xk.r<v2.heap.size:=kb2.lt
 have kb3:=kb2.chg c23 hbF
 have hne:d8≠xk.r:=fun e=>by
  have:=hW.size
  have:=hq.chg.size
  omega
 refine give_end (Post:=GiveQ D B g.s bs (giveS D S x L i).1 (giveS D S x L i).2 M v) hZ cr.ok k8 kb3 hne (fun v4 c4 k4=> ?_) (fun X' v' hq=>hpost _ X' v' hq) _ _ _ _ _ _ _ _ _ _ _ _ _ _ _ _ _ _ _ _ _ _ _ _ _ _ _ _ _ _ _ _ _ _ _ _ _ _ _ _ _ _ _ _ _ _ _ _ _ _ _ _ _ _ _ _ _ _ _ _ _ _ _ _ _ _ _ _ _ _ _ _ _ _ _ _ _ _ _ _ _ _ _ _ _ _ _ _ _
 have hd82:v2.heap.size≤d8:=Nat.le_trans hW.size (Nat.le_trans hq.chg.size hd8)
 have c24:Chg (fun k=>F k∨k=xk.r) v2 v4:=(c23.mono (fun _ _=>Or.inl)).trans c4 (fun k hk e=>e.elim (fun e=>by omega) .inr)
 have hsv2:v1.heap.size≤v2.heap.size:=c2.size
 have huvb:∀k,uv'.ownBlock=some k→uv.ownBlock=some k∨v1.heap.size≤k:=fun k hk=>by
  rcases huv with e|⟨k',e,hk'⟩
  ·exact .inl (e▸hk)
  ·rw[hk] at e
   have:=Option.some.inj e
   exact .inr (by omega)
 have hv01:=c1.size
 have hbslt:∀b∈bs,b<v.heap.size:=fun b hb=>(hS.lt b (.inr (.inl hb))).2
 have hSM:SM D.o B g.s bs tv uv' ⟨(agedL L i S.rs).set i ⟨{(D.st x r.task).1 with id:=r.task.id},(D.st x r.task).2.1,0⟩,S.turns++[⟨r.task.id,r.wait,L.length⟩],S.most,S.closed⟩ v4:=by
  have tk4:Own ptR 98 B v4 tv bs:=by
   have h2:=task1.chg ptR_flat c2 (fun k hk e=>by
    rcases e with e|e
    ·exact(hS.ap k hk).1 e
    ·exact hS.tasks.apart hS.turns (by decide) k hk e)
   exact h2.chg ptR_flat c24 (fun k hk e=>by
    rcases e with e|e
    ·exact hsep k e (.inr (.inr (.inl hk)))
    ·exact(hS.ap k hk).2 (e▸hbm))
  have tn4:Own tnR 79 B v4 uv' (S.turns++[⟨r.task.id,r.wait,L.length⟩]):=own2.chg tnR_flat c24 (fun k hk e=>by
   rcases huvb k hk with h1|h1
   ·rcases e with e|e
    ·exact hsep k e (.inr (.inr (.inr h1)))
    ·exact(hS.aq k h1).2 (e▸hbm)
   ·rcases e with e|e
    ·have:=hF k e;omega
    ·have:=hbslt _ hbm;omega)
  refine SM.turned hS hri hturn (box2.chg c24 (fun e=>e.elim hsF (fun e=>hbs e.symm))) tk4 tn4 (fun k bk rk hki hbk hrk=> ?_) (fun b' hb'=> ?_) (fun k hk=> ?_)
  ·have h1:=(k1 k bk rk hbk hrk).chg c2 (fun e=>by
    have hm3:=List.mem_of_getElem? hbk
    rcases e with e|e
    ·exact hS.sb (e▸hm3)
    ·exact(hS.aq bk e).2 hm3)
   refine h1.chg c24 fun e=> ?_
   rcases e with e|e
   ·exact hsep bk e (.inr (.inl (List.mem_of_getElem? hbk)))
   ·exact hki (nd_inj hS.nd hbk (e▸hb))
  ·have e:xk.r=b':=Option.some.inj (hb.symm.trans hb')
   subst e
   have h1:=k4
   have e2:(agedR L i i r).age=0:=by simp[agedR]
   rw[e2] at h1
   exact h1
  ·rcases huvb k hk with h1|h1
   ·exact hS.aq k h1
   ·exact⟨fun e=>by omega,fun e=>by have:=hbslt _ e;omega⟩
 have hgv:giveS D S x L i=(begS ⟨(agedL L i S.rs).set i ⟨{(D.st x r.task).1 with id:=r.task.id},(D.st x r.task).2.1,0⟩,S.turns++[⟨r.task.id,r.wait,L.length⟩],S.most,S.closed⟩ (D.st x r.task).2.2.1,(D.st x r.task).2.2.2):=by
  unfold giveS
  rw[hri]
 have hinv':=hD.next (L:=L) (i:=i) hinv hS.ok hil hturn
 have hFl:∀k,F' k→k<w'.heap.size:=hFl'
 have hWv:v2.heap.size≤W.heap.size:=hW.size
 have hWw:W.heap.size≤w'.heap.size:=hq.chg.size
 have hw3:w'.heap.size≤v3.heap.size:=c3.size
 have h34:v3.heap.size≤v4.heap.size:=c4.size
 have hFd:∀k,F' k→F k∨W.heap.size≤k:=hF'
 have hm4:D.mem (D.st x r.task).2.2.2 F' v4:=by
  have h1:=hD.keep hm' c3 (fun k hk e=>by
   rcases hFd k hk with h2|h2
   ·have:=hF k h2;omega
   ·omega)
  refine hD.keep h1 c4 fun k hk e=> ?_
  rcases e with e|e
  ·have:=hFl k hk;omega
  ·rcases hFd k hk with h2|h2
   ·exact hbF (e▸h2)
   ·omega
 have hl4:Sl tkR v4 (.slice lA ln lc) (D.st x r.task).2.2.1:=by
  have h1:=hq.list.chg tkR_flat c3 (fun k hk e=>by have:=hq.far k hk;omega)
  exact h1.chg tkR_flat c4 (fun k hk e=>by
   have:=hq.far k hk
   rcases e with e|e<;>omega)
 have hbc:=begin_co (Z:=Z) (g:=g) hZ hq.len cr hSM hl4 (fun k hk=>by
  have h1:=hq.far k hk
  refine⟨fun e=>by omega,fun e=> ?_,by omega⟩
  have:=(hS.lt k (.inr (.inr (.inl e)))).2
  omega)
 intro c' cs' hpost'
 refine hbc c' cs' fun e X' v5 hQ=>hpost' e X' v5 ?_
 obtain⟨rfl,g',bs',tv',rfl,cr',hS',c5,htv',new,rfl,hnew⟩:=hQ
 have hm5:=hD.keep hm4 c5 (fun k hk e=>by
  rcases hFd k hk with h2|h2
  ·rcases e with e|e
   ·exact hsF (e▸h2)
   ·exact hsep k h2 (.inr (.inr (.inl e)))
  ·rcases e with e|e
   ·omega
   ·have:=(hS.lt k (.inr (.inr (.inl e)))).2
    omega)
 refine⟨rfl,⟨g',rfl,cr'.ok⟩,rfl,g',_,fun k=>SMf g.s (bs++new) tv' uv' k∨F' k,rfl,⟨tv',uv',F',cr', ?_,(by rw[hgv];exact hm5),fun k hk e=> ?_,hinv',fun k hk=>hk⟩, ?_, ?_,new,rfl⟩
 ·rw[hgv]
  exact hS'
 ·have hk4:k<v4.heap.size:=by have:=hFl k hk;omega
  have hkd:F k∨v2.heap.size≤k:=(hFd k hk).imp id fun h=>by omega
  rcases e with e|e|e|e
  ·rcases hkd with h2|h2
   ·exact hsF (e▸h2)
   ·omega
  ·rcases List.mem_append.1 e with e|e
   ·rcases hkd with h2|h2
    ·exact hsep k h2 (.inr (.inl e))
    ·have:=hbslt k e;omega
   ·have:=hnew k e;omega
  ·rcases htv' k e with e|e
   ·rcases hkd with h2|h2
    ·exact hsep k h2 (.inr (.inr (.inl e)))
    ·have:=(hS.lt k (.inr (.inr (.inl e)))).2
     omega
   ·omega
  ·have hk2:k<v2.heap.size:=(own2.lt k e).2
   rcases hkd with h2|h2
   ·rcases huvb k e with h3|h3
    ·exact hsep k h2 (.inr (.inr (.inr h3)))
    ·have:=hF k h2;omega
   ·omega
 ·have c04:Chg (fun k=>(k∈bs∨k=g.s∨uv.ownBlock=some k)∨F k∨k=xk.r) v v4:=(c02.mono (fun _ _=>Or.inl)).trans c24 (fun _ _=>Or.inr)
  have c05:Chg (fun k=>((k∈bs∨k=g.s∨uv.ownBlock=some k)∨F k∨k=xk.r)∨k=g.s∨tv.ownBlock=some k) v v5:=(c04.mono (fun _ _=>Or.inl)).trans c5 (fun _ _=>Or.inr)
  refine c05.mono fun k _ e=>hM k ?_
  rcases e with(((e|e|e)|e|e)|e|e)
  ·exact .inl (.inr (.inl e))
  ·exact .inl (.inl e)
  ·exact .inl (.inr (.inr (.inr e)))
  ·exact .inr e
  ·exact .inl (.inr (.inl (e▸hbm)))
  ·exact .inl (.inl e)
  ·exact .inl (.inr (.inr (.inl e)))
 ·intro k hk
  rcases hk with(e|e|e|e)|e
  ·exact .inl (hM k (.inl (.inl e)))
  ·rcases List.mem_append.1 e with e|e
   ·exact .inl (hM k (.inl (.inr (.inl e))))
   ·have:=hnew k e;exact .inr (by omega)
  ·rcases htv' k e with e|e
   ·exact .inl (hM k (.inl (.inr (.inr (.inl e)))))
   ·exact .inr (by omega)
  ·rcases huvb k e with e|e
   ·exact .inl (hM k (.inl (.inr (.inr (.inr e)))))
   ·exact .inr (by omega)
  ·rcases hFd k e with e|e
   ·exact .inl (hM k (.inr e))
   ·exact .inr (by omega)
end Co
end Go.Proofs.Ytlngbdggehghgaa

namespace Go.Proofs.Ytlngbdggehghgaa
set_option linter.unusedSimpArgs false
set_option linter.unusedVariables false
def pickE (D:Wd) (S:SS) (x:RW) (k:Int):Int:=if k<0 then 7 else nextS S D.o x
def pickI (D:Wd) (S:SS) (x:RW) (k:Int):Nat:=(enI S D.o x).getD (k%((enI S D.o x).length:Int)).toNat 0
def pickS (D:Wd) (S:SS) (x:RW) (k:Int):SS×RW:=if pickE D S x k=0 then giveS D S x (enI S D.o x) (pickI D S x k) else(S,x)
theorem begS_pre (l:List Tk):∀(S:SS) {i:Nat} {r:Ru},S.rs[i]?=some r→(begS S l).rs[i]?=some r:=by
 induction l with
 |nil=>exact fun S i r h=>h
 |cons t l ih=>
  intro S i r h
  rw[Co.begS_cons]
  refine ih _ ?_
  split
  ·show(S.rs++[_])[i]?=some r
   rw[List.getElem?_append_left (List.getElem?_eq_some_iff.1 h).1]
   exact h
  ·exact h
theorem giveS_at (D:Wd) {S:SS} {x:RW} {L:List Nat} {i:Nat} (hi:i<S.rs.length):∃r,(giveS D S x L i).1.rs[i]?=some r:=by
 unfold giveS
 rw[List.getElem?_eq_getElem hi]
 exact⟨_,begS_pre _ _ (by
  show(List.set _ i _)[i]?=some _
  rw[List.getElem?_set,if_pos rfl,if_pos (by simpa[agedL] using hi)])⟩
namespace Co
open Go.Conc Go.RowKit
def Aft (D:Wd) (B s:Nat) (bs:List Nat) (S':SS) (x':RW) (M:Nat→Prop) (v:World) (X':Fx) (v':World):Prop:=
 ∃(g':Gh) (bs':List Nat) (M':Nat→Prop),X'=g'.fx Try.prog κL 0∧Sch D B g' s bs' S' x' M' v'∧Chg M v v'∧(∀k,M' k→M k∨v.heap.size≤k)∧∃new,bs'=bs++new
theorem Aft.still {D:Wd} {B s:Nat} {g:Gh} {bs:List Nat} {S:SS} {x:RW} {M:Nat→Prop} {v w:World} (hD:Wd.Ok D) (h:Sch D B g s bs S x M v) (c:Chg (fun _=>False) v w):Aft D B s bs S x M v (g.fx Try.prog κL 0) w:=
 ⟨g,bs,M,rfl,h.chg hD c (fun _ _=>id),c.mono (fun _ _ e=>e.elim),fun _ hk=> .inl hk,[],by simp⟩
theorem Aft.pre {D:Wd} {B s:Nat} {bs:List Nat} {S:SS} {x:RW} {M:Nat→Prop} {v w v':World} {X':Fx} (c:Chg (fun _=>False) v w) (h:Aft D B s bs S x M w X' v'):Aft D B s bs S x M v X' v':=by
 obtain⟨g',bs',M',e,h1,h2,h3,h4⟩:=h
 exact⟨g',bs',M',e,h1,(c.mono (fun _ _ e=>e.elim)).trans h2 (fun _ _=>id),fun k hk=>(h3 k hk).imp id (Nat.le_trans c.size),h4⟩
theorem Aft.post {D:Wd} (hD:Wd.Ok D) {B s:Nat} {bs:List Nat} {S:SS} {x:RW} {M:Nat→Prop} {v w v':World} {X':Fx} (h:Aft D B s bs S x M v X' w) (c:Chg (fun _=>False) w v'):Aft D B s bs S x M v X' v':=by
 obtain⟨g',bs',M',e,h1,h2,h3,h4⟩:=h
 exact⟨g',bs',M',e,h1.chg hD c (fun _ _=>id),h2.trans (c.mono (fun _ _ e=>e.elim)) (fun _ _=>id),h3,h4⟩
noncomputable def body18:Code:=Try.f18.body.getD .skip
set_option maxRecDepth 100000 in
set_option maxHeartbeats 4000000 in
theorem Pick_co {Z:Goal} {D:Wd} {g:Gh} {B s:Nat} {bs:List Nat} {S:SS} {x:RW} {M:Nat→Prop} {v:World} {k:Int} (hD:Wd.Ok D) (hZ:Z.Ok Try.prog) (h:Sch D B g s bs S x M v) (hop:S.closed=false) (hk:Bd k):
 Calls Try.prog Z 0 (g.fx Try.prog κL 0) 18 #[.pointer (some ⟨s,0,none⟩),.int .i64 k] v fun e X' v'=>e=.tuple #[.int .i64 (if pickE D S x k=0 then(pickI D S x k:Int)+1 else 0),.int .i64 (pickE D S x k)]∧Aft D B s bs (pickS D S x k).1 (pickS D S x k).2 M v X' v':=by
 intro c cs hpost
 have HP:=Hd.mk hpost
 have HS:=Hd.mk h
 clear hpost
 obtain⟨tv,uv,F,cr,hSM,hm,hsep,hinv,hM⟩:=h
 have hX:=cr.ok.fx κL_ok
 have H1:=Hd.mk hSM
 have H2:=Hd.mk hm
 have H3:=Hd.mk hinv
 clear hSM hm hsep hinv hM
 rw[enter_at _ Try.func18 (by kernel_rfl:Try.f18.body=some body18),Try.ntmps18]
 walk_nrm
 simp only[body18,Try.f18,Option.getD_some]
 refine co_seq hZ hX ?_
 refine co_code hZ hX TT (by decide) (by kernel_rfl) (by kernel_rfl) fun K hK u hu=> ?_
 go_wp2_with fail
 refine hK.out _ _ (co_same hu ?_)
 clear hK K hu u
 refine co_seq hZ hX ?_
 refine co_seq hZ hX ?_
 refine co_code hZ hX TT (by decide) (by kernel_rfl) (by kernel_rfl) fun K hK u hu=> ?_
 have R:=Lib.hid (ready_any (H1.out.chg (same_chg (F:=fun _=>False) hu) (fun _ _=>id)))
 have C0:=Hd.mk (same_chg (F:=fun _=>False) hu)
 have hr0:readyS S=0:=by simp[readyS,hop]
 rw[hr0] at R
 clear hu
 go_wp2_with (go_at_call 30;refine R.out.mono ?_;rintro e v1 ⟨rfl,hb1⟩)
 refine hK.out _ _ ?_
 have C1:=Hd.mk (C0.out.trans (Chg.of_below (F:=fun _=>False) hb1) (fun _ _=>id))
 clear hK K R C0 hb1 u
 refine co_seq hZ hX ?_
 refine co_code hZ hX TT (by decide) (by kernel_rfl) (by kernel_rfl) fun K hK u hu=> ?_
 go_wp2_with fail
 refine hK.out _ _ (co_same hu ?_)
 clear hK K hu u
 refine co_cond (t:=false) hZ hX (by simp[Act.eval]) ?_
 simp only[Bool.false_eq_true,↓reduceIte]
 refine co_skip hZ hX ?_
 refine co_seq hZ hX ?_
 refine co_seq hZ hX ?_
 refine co_code hZ hX TT (by decide) (by kernel_rfl) (by kernel_rfl) fun K hK u hu=> ?_
 go_wp2_with fail
 refine hK.out _ _ (co_same hu ?_)
 clear hK K hu u
 by_cases hk0:k<0
 ·refine co_cond (t:=true) hZ hX (by simp[Act.eval,hk0]) ?_
  simp only[↓reduceIte]
  refine co_seq hZ hX ?_
  refine co_code hZ hX TT (by decide) (by kernel_rfl) (by kernel_rfl) fun K hK u hu=> ?_
  go_wp2_with fail
  refine hK.out _ _ (co_same hu ?_)
  clear hK K hu u
  refine co_ret hZ hX ?_
  refine c_leave (n:=0) (J:=fun _ a=>Co Try.prog Z 0 (g.fx Try.prog κL 0) a v1) (Co.calmly hZ hX) (x:=.tuple #[.int .i64 0,.int .i64 7]) rfl rfl Try.func18 (fun w=>by simp[results,Try.results18,go_sem]) (fun w=>by simp[results,Try.results18,go_sem]) ?_
  have hpe:pickE D S x k=7:=by simp[pickE,hk0]
  refine HP.out _ _ v1 ⟨by rw[hpe];rfl, ?_⟩
  have hps:pickS D S x k=(S,x):=by unfold pickS;rw[hpe];rfl
  rw[hps]
  exact Aft.still hD HS.out C1.out
 refine co_cond (t:=false) hZ hX (by simp[Act.eval];omega) ?_
 simp only[Bool.false_eq_true,↓reduceIte]
 refine co_skip hZ hX ?_
 refine co_seq hZ hX ?_
 refine co_code hZ hX TT (by decide) (by kernel_rfl) (by kernel_rfl) fun K hK u hu=> ?_
 have C2:=Hd.mk (C1.out.trans (same_chg (F:=fun _=>False) hu) (fun _ _=>id))
 have R:=Lib.hid (next_any x (H1.out.chg C2.out (fun _ _=>id)) (hD.en (hD.keep H2.out C2.out (fun _ _=>id))) (hD.obj H3.out))
 clear hu C1
 go_wp2_with (go_at_call 31;refine R.out.mono ?_;rintro e v2 ⟨lv,rfl,hown,hb2⟩;generalize hps:(if nextS S D.o x=0 then bxs bs (enI S D.o x) else[])=ps at hown;have HPS:=Lib.hid hps;clear hps;obtain⟨lA,lc,rfl,hlc1,hlc2,hown⟩:=hown.form;have HO:=Lib.hid hown;have HB2:=Lib.hid hb2;clear hown hb2)
 refine hK.out _ _ ?_
 have C3:=Hd.mk (C2.out.trans (Chg.of_below (F:=fun _=>False) HB2.out) (fun _ _=>id))
 have hvu:v.heap.size≤u.heap.size:=C2.out.size
 have hvk:∀k,(Value.slice lA ps.length lc).ownBlock=some k→v.heap.size≤k:=fun k hk=>Nat.le_trans hvu (HO.out.lt k hk).1
 have HO2:=Lib.hid HO.out.sl
 clear hK K R HO C2 HB2
 refine co_seq hZ hX ?_
 refine co_seq hZ hX ?_
 refine co_code hZ hX TT (by decide) (by kernel_rfl) (by kernel_rfl) fun K hK u hu=> ?_
 go_wp2_with fail
 refine hK.out _ _ (co_same hu ?_)
 clear hK K hu
 by_cases hn:nextS S D.o x=0
 ·refine co_cond (t:=false) hZ hX (by simp[Act.eval,hn]) ?_
  simp only[Bool.false_eq_true,↓reduceIte]
  refine co_skip hZ hX ?_
  have hpe:pickE D S x k=0:=by simp[pickE,hk0,hn]
  have hps2:ps=bxs bs (enI S D.o x):=by have:=HPS.out;rw[if_pos hn] at this;exact this.symm
  have hne:enI S D.o x≠[]:=fun e=>by unfold nextS at hn;rw[if_pos e] at hn;split at hn<;>simp at hn
  have hpos:0<(enI S D.o x).length:=List.length_pos_iff.2 hne
  have hidx:(k%((enI S D.o x).length:Int)).toNat<(enI S D.o x).length:=by
   have h1:=Int.emod_nonneg k (show((enI S D.o x).length:Int)≠0 by omega)
   have h2:=Int.emod_lt_of_pos k (show 0<((enI S D.o x).length:Int) by omega)
   omega
  have hpl:ps.length=(enI S D.o x).length:=by rw[hps2];simp[bxs]
  have hlen:(enI S D.o x).length≤200:=Nat.le_trans (plc_len _ _ _) H1.out.ok.few
  have hpi:pickI D S x k=(enI S D.o x)[(k%((enI S D.o x).length:Int)).toNat]:=by
   unfold pickI
   rw[List.getD_eq_getElem?_getD,List.getElem?_eq_getElem hidx]
   rfl
  have hil:=enI_lt S D.o x _ (List.getElem_mem hidx)
  rw[←hpi] at hil
  obtain⟨b,hb,-⟩:=H1.out.run hil
  have hidx2:(k%(ps.length:Int)).toNat<ps.length:=by rw[hpl];exact hidx
  have hpb:ps[(k%(ps.length:Int)).toNat]=b:=by
   have h1:ps[(k%(ps.length:Int)).toNat]?=some b:=by
    rw[hpl,hps2]
    unfold bxs
    rw[List.getElem?_map,List.getElem?_eq_getElem hidx]
    show some (bs.getD _ 0)=_
    rw[←hpi,List.getD_eq_getElem?_getD,hb]
    rfl
   rw[List.getElem?_eq_getElem hidx2] at h1
   exact Option.some.inj h1
  obtain⟨bl,off,cc,rfl,hbl,hcc,hat⟩:=HO2.out.at_ hidx2
  have hp:=hat 0 _ (by rw[show cc=_ from hcc];rfl)
  simp only[ptR,Nat.mul_one,Nat.add_zero] at hp
  rw[hpb] at hp
  have hmod:k.tmod (ps.length:Int)=(((k%(ps.length:Int)).toNat:Nat):Int):=by
   have h1:=Int.emod_nonneg k (show(ps.length:Int)≠0 by omega)
   rw[Int.tmod_eq_emod_of_nonneg (by omega)]
   omega
  have hbb:=Lib.hid hb
  have hpe2:=Lib.hid hpe
  have hps3:=Lib.hid hps2
  have hlen2:=Lib.hid hlen
  have hn2:=Lib.hid hn
  have hil2:=Lib.hid hil
  have hml:(k%(ps.length:Int)).toNat<ps.length:=hidx2
  rw[hn]
  generalize(k%(ps.length:Int)).toNat=m at hp hmod hml
  clear hcc hat hpi hpb hb hpe hps2 hpl hne hpos hidx hlen hn hil hidx2
  refine co_seq hZ hX ?_
  refine co_code hZ hX TT (by decide) (by kernel_rfl) (by kernel_rfl) fun K hK u hu=> ?_
  have hcell:∀a,u.cell? a=v2.cell? a:=fun a=>by unfold World.cell?;rw[hu.heap]
  rw[←hcell] at hp
  clear hcell
  go_wp2_with fail
  refine hK.out _ _ (co_same hu ?_)
  clear hK K hu hp u
  refine co_seq hZ hX ?_
  refine c_region (n:=0) (J:=fun _ a=>Co Try.prog Z 0 (g.fx Try.prog κL 0) a v2) (Co.calmly hZ hX) [0,1,2,3] rfl ?_
  refine co_value hZ hX (.pointer (some ⟨s,0,none⟩)) rfl rfl (by decide) (fun _=>by simp[go_sem,execOp,Act.eval]) (fun _=>by simp[go_sem,execOp,Act.eval]) ?_
  walk_nrm
  refine co_value hZ hX (.slice (some ⟨bl,off,none⟩) ps.length lc) rfl rfl (by decide) (fun _=>by simp[go_sem,execOp,Act.eval]) (fun _=>by simp[go_sem,execOp,Act.eval]) ?_
  walk_nrm
  refine co_value hZ hX (.pointer (some ⟨b,0,none⟩)) rfl rfl (by decide) (fun _=>by simp[go_sem,execOp,Act.eval]) (fun _=>by simp[go_sem,execOp,Act.eval]) ?_
  walk_nrm
  refine co_call2 hZ hX rfl rfl (by decide) rfl Try.func32 (by kernel_rfl) (by kernel_rfl) (vals:=#[.pointer (some ⟨s,0,none⟩),.slice (some ⟨bl,off,none⟩) ps.length lc,.pointer (some ⟨b,0,none⟩)]) (by simp[Act.eval]) ?_
  have hbs:∀k∈bs,k<v.heap.size:=fun k hk=>(H1.out.lt k (.inr (.inl hk))).2
  have hturn:(S.turns.length:Int)<S.most:=by
   have:=hn2.out
   unfold nextS at this
   by_cases e:S.most≤(S.turns.length:Int)
   ·rw[if_pos e] at this;cases this
   ·omega
  refine give_co (L:=enI S D.o x) (i:=pickI D S x k) hD hZ (HS.out.chg hD C3.out (fun _ _=>id)) (by rw[←hps3.out];exact HO2.out) (enI_lt S D.o x) hlen2.out hbb.out (fun k hk hm=>by have:=hvk k hk;have:=hbs k hm;omega) hturn _ _ fun e X' v3 hq=> ?_
  obtain⟨rfl,hq⟩:=hq
  obtain⟨g',bs',M',rfl,hS',hc',hM',new,rfl⟩:=hq
  have hA:Aft D B s bs (pickS D S x k).1 (pickS D S x k).2 M v (g'.fx Try.prog κL 0) v3:=by
   have:pickS D S x k=giveS D S x (enI S D.o x) (pickI D S x k):=by unfold pickS;rw[if_pos hpe2.out]
   rw[this]
   exact Aft.pre C3.out ⟨g',_,M',rfl,hS',hc',hM',new,rfl⟩
  obtain⟨tv',uv',F',cr',hSM',_⟩:=hS'
  have hX':=cr'.ok.fx κL_ok
  obtain⟨r',hr'⟩:=giveS_at D (x:=x) (L:=enI S D.o x) hil2.out
  have hb':(bs++new)[pickI D S x k]?=some b:=by
   rw[List.getElem?_append_left (List.getElem?_eq_some_iff.1 hbb.out).1]
   exact hbb.out
  have kr:=hSM'.runs _ b r' hb' hr'
  have hid:=hSM'.ok.ids _ r' hr'
  rw[Frame.finish_at]
  walk_nrm
  refine co_region_end hZ hX' ?_
  refine co_seq hZ hX' ?_
  refine co_code hZ hX' TT (by decide) (by kernel_rfl) (by kernel_rfl) fun K hK u hu=> ?_
  have r0:=(kr.chg (same_chg (F:=fun _=>False) hu) id).c 0 _ rfl
  rw[hid] at r0
  clear kr hid hb' hr' hSM'
  go_wp2_with fail
  refine hK.out _ _ (co_same hu ?_)
  clear hK K hu r0 u
  refine co_ret hZ hX' ?_
  refine c_leave (n:=0) (J:=fun _ a=>Co Try.prog Z 0 (g'.fx Try.prog κL 0) a v3) (Co.calmly hZ hX') (x:=.tuple #[.int .i64 ((pickI D S x k:Int)+1),.int .i64 0]) rfl rfl Try.func18 (fun w=>by simp[results,Try.results18,go_sem]) (fun w=>by simp[results,Try.results18,go_sem]) ?_
  exact HP.out _ _ v3 ⟨by rw[hpe2.out];rfl,hA⟩
 ·refine co_cond (t:=true) hZ hX (by simp[Act.eval,hn]) ?_
  simp only[↓reduceIte]
  refine co_seq hZ hX ?_
  refine co_code hZ hX TT (by decide) (by kernel_rfl) (by kernel_rfl) fun K hK u hu=> ?_
  go_wp2_with fail
  refine hK.out _ _ (co_same hu ?_)
  clear hK K hu
  refine co_ret hZ hX ?_
  refine c_leave (n:=0) (J:=fun _ a=>Co Try.prog Z 0 (g.fx Try.prog κL 0) a v2) (Co.calmly hZ hX) (x:=.tuple #[.int .i64 0,.int .i64 (nextS S D.o x)]) rfl rfl Try.func18 (fun w=>by simp[results,Try.results18,go_sem]) (fun w=>by simp[results,Try.results18,go_sem]) ?_
  have hpe:pickE D S x k=nextS S D.o x:=by unfold pickE;rw[if_neg (by omega)]
  refine HP.out _ _ v2 ⟨by rw[hpe,if_neg hn], ?_⟩
  have hps2:pickS D S x k=(S,x):=by unfold pickS;rw[hpe,if_neg hn]
  rw[hps2]
  exact Aft.still hD HS.out C3.out
end Co
end Go.Proofs.Ytlngbdggehghgaa

/-
  A worker sends back what its step has returned, and goes to its receive. Conditions: as each theorem says.
  A worker's turn, in company: from the receive of its task to the send of what its step has returned, and back to the receive. Conditions: as each theorem says.
  A turn is given, in company: the ages. Conditions: as each theorem says.
-/
import Derived.Test.YtlngbdggehghgaaCxB
import Derived.Test.YtlngbdggehghgaaScG
import Derived.Deep.RegionHeld3
namespace Go.Proofs.Ytlngbdggehghgaa
set_option linter.unusedSimpArgs false
set_option linter.unusedVariables false
namespace Co
open Go.Conc Go.RowKit
theorem eval_tmp {a:Act} {s:Nat} {x:Value} (h:a.tmps[s]?=some x):a.eval (.tmp s)=x:=by simp[Act.eval,Array.getD_eq_getD_getElem?,h]
section
variable {P:Program} {Z:Goal} {h:Nat} {X:Fx} {b:Frame} {a:Act} {k:List Item} {cs:List Frame} {v:World}
theorem co_value (hZ:Z.Ok P) (hX:X.Ok P h) (x:Value) {ops:Array Oper} {i:Nat} {rest:List Nat} {o:Oper} (ho:ops[i]?=some o) (hw:Region.wanted o (yielded ops a.tmps)=true) (hk:b.kind≠.early)
 (hr:∀w,(execOp a.eval o).run P w=.ok (.value x) w) (he:∀w,(execOp a.eval o).events P w #[]=#[])
 (hc:Co P Z h X (G (b.at (a.put o.dst x) (.inRegion ops rest::k)) cs) v):Co P Z h X (G (b.at a (.inRegion ops (i::rest)::k)) cs) v:=
 c_value (J:=fun _ g=>Co P Z h X g v) (n:=0) (Co.calmly hZ hX) x ho hw hk hr he hc
theorem co_read (hZ:Z.Ok P) (hX:X.Ok P h) (x:Value) (ad:Addr) {ops:Array Oper} {i:Nat} {rest:List Nat} {o:Oper} (ho:ops[i]?=some o) (hw:Region.wanted o (yielded ops a.tmps)=true) (hk:b.kind≠.early)
 (hr:∀w,X.K w→(execOp a.eval o).run P w=.ok (.value x) w) (he:∀w,X.K w→(execOp a.eval o).events P w #[]=#[⟨.cell ad,false,false⟩]) (hS:X.Still (.cell ad)) (hB:ad.block<v.heap.size)
 (hc:Co P Z h X (G (b.at (a.put o.dst x) (.inRegion ops rest::k)) cs) v):Co P Z h X (G (b.at a (.inRegion ops (i::rest)::k)) cs) v:=by
 intro T T0 gs w sl q ht hi hg
 refine co_step2 hZ hX rfl (fun w hv hK _=> ?_) T T0 gs w sl q ht hi hg
 refine⟨_,w,v,listed P b.fn a o w,fun e hm=> .inr ?_,stepG_value ho hw hk (hr w hK),fun _ _ _=>SameFrom.refl _ _,Nat.le_refl _,hv,hi.nv,hc⟩
 have:=mem_listed hm
 rw[he w hK] at this
 simp only[List.mem_toArray,List.mem_cons,List.not_mem_nil,or_false] at this
 subst this
 exact evC_read _ hS (by rw[←hv.size];exact hB)
end
def reachB (ops:Array Oper) (n:Nat):Bool:=(List.range n).all fun j=>((List.range n).foldl (fun(S:List Nat) _=>S++(List.range n).filter fun j=> !S.contains j&&S.any fun i=>bindOf ops i j) [n]).contains j
theorem reach_of {ops:Array Oper} {n:Nat} (hr:reachB ops n=true) (p:Nat→Bool) (h1:∀i,i<n→p i=true→∀j,bindOf ops i j=true→p j=true) (h2:∀j,bindOf ops n j=true→p j=true) (j:Nat) (hj:j<n):p j=true:=by
 have key:∀(l:List Nat) (S:List Nat),(∀i∈S,i=n∨(i<n∧p i=true))→∀i∈l.foldl (fun(S:List Nat) _=>S++(List.range n).filter fun j=> !S.contains j&&S.any fun i=>bindOf ops i j) S,i=n∨(i<n∧p i=true):=by
  intro l
  induction l with
  |nil=>exact fun S h=>h
  |cons y l ih=>
   intro S hS
   refine ih _ fun i hi=> ?_
   rcases List.mem_append.1 hi with hi|hi
   ·exact hS i hi
   ·simp only[List.mem_filter,List.mem_range,Bool.and_eq_true,List.any_eq_true] at hi
    obtain⟨hin,_,m,hm,hb⟩:=hi
    refine .inr ⟨hin, ?_⟩
    rcases hS m hm with rfl|⟨hmn,hpm⟩
    ·exact h2 i hb
    ·exact h1 m hmn hpm i hb
 unfold reachB at hr
 rw[List.all_eq_true] at hr
 have:=hr j (by simpa using hj)
 rw[List.contains_iff_mem] at this
 rcases key _ [n] (fun i hi=> .inl (by simpa using hi)) j this with h|h
 ·omega
 ·exact h.2
def doneV (t:Tk) (q:Wa) (l:Value):Value:=.agg #[.int .i64 t.id,.int .i64 t.kind,.int .i64 t.pc,.int .i64 t.a,.int .i64 t.b,.int .i64 t.c,.int .i64 t.d,.int .i64 q.kind,.int .i64 q.obj,.int .i64 q.til,l]
def doneL (t:Tk) (q:Wa) (l:Value):List Value:=[.int .i64 t.id,.int .i64 t.kind,.int .i64 t.pc,.int .i64 t.a,.int .i64 t.b,.int .i64 t.c,.int .i64 t.d,.int .i64 q.kind,.int .i64 q.obj,.int .i64 q.til,l]
noncomputable def reg6:Code:=sndC (sndC (sndC (inC (sndC (sndC lb)))))
noncomputable def WSn (s:Nat) (x:Wk) (d5:Nat) (J3 Jb Jn Jw Jr Jc Jp Jt Ji Jq Je Jj Jl Jf Ja Jg Jv Jm Jh Js Jd Jo Ju Jk Jx Jy J0 Jz J1 J2:Value):Goroutine:=
 G (b63.at ⟨#[.pointer (some ⟨s,0,none⟩),.pointer (some ⟨x.r,0,none⟩),J3,Jb,Jn,.pointer (some ⟨d5,0,none⟩),Jw,Jr,Jc,Jp,Jt,Ji,.chan (some x.ct),Jq,Je,Jj,Jl,Jf,Ja,Jg,Jv,Jm,Jh,Js,Jd,Jo,Ju,Jk,Jx,Jy,J0,Jz,J1,J2],[doneC s]⟩ [.code reg6,.inBlock 1,.inLoop lb,.inBlock 0]) [bot]
set_option maxRecDepth 100000 in
set_option maxHeartbeats 4000000 in
theorem worker_send {Z:Goal} {g:Gh} {x:Wk} {w:World} {t:Tk} {q:Wa} {l z:Value} {home:Goroutine→Prop} {d5:Nat}
 (hZ:Z.Ok Try.prog) (hg:g.Ok x.i) (hg0:g.Ok 0) (hoff:g.off=0) (hear:g.ear=true) (hn:0<g.n) (hm:g.m0=some (Seat.one x.cb z false home)) (hx:x∈g.rs) (hxi:x.i≠0) (hseat:g.seat κL x.i=some (κL.seat g.s x))
 (hr:x.r<w.heap.size) (k5:Cells w d5 (doneL t q l))
 (hback:∀g₂,home g₂→Co Try.prog Z 0 (g.fx Try.prog κL 0) (Go.Conc.served g₂ (recvd false (doneV t q l) true)) w)
 (J3 Jb Jn Jw Jr Jc Jp Jt Ji Jq Je Jj Jl Jf Ja Jg Jv Jm Jh Js Jd Jo Ju Jk Jx Jy J0 Jz J1 J2:Value):
 Co Try.prog Z x.i (g.fx Try.prog κL x.i) (WSn g.s x d5 J3 Jb Jn Jw Jr Jc Jp Jt Ji Jq Je Jj Jl Jf Ja Jg Jv Jm Jh Js Jd Jo Ju Jk Jx Jy J0 Jz J1 J2) w:=by
 have hX:=hg.fx κL_ok
 unfold WSn
 simp only[reg6,lb,body63,Try.f63,Option.getD_some,sndC,inC]
 have hK:∀w,g.K w→w.cell? ⟨x.r,12,none⟩=some (.chan (some x.cb)):=fun w hw=>(hw x hx).2
 refine co_chain hZ hX (by rfl) [(29,.pointer (some ⟨x.r,0,none⟩)),(30,.pointer (some ⟨x.r,0,none⟩)),(31,.pointer (some ⟨x.r,12,none⟩)),(32,.chan (some x.cb)),(33,doneV t q l)] rfl (by kernel_rfl) (by show[29,30,31,32,33].Nodup;decide) (by simp) (reach_of (n:=5) (by kernel_rfl)) ?_ ?_
 ·intro i p hp a hds hsz hb hrest rest hc
  match i,hp with
  |0,hp=>
   obtain rfl:=Option.some.inj hp
   have e1:a.tmps[1]?=some (.pointer (some ⟨x.r,0,none⟩)):=hrest 1 (by simp)
   refine co_value hZ hX _ rfl rfl (by decide) (fun _=> ?_) (fun _=> ?_) hc
   ·simp[go_sem,execOp,e1]
   ·simp[go_sem,execOp,e1]
  |1,hp=>
   obtain rfl:=Option.some.inj hp
   have e1:a.tmps[29]?=some (.pointer (some ⟨x.r,0,none⟩)):=hb 0 _ rfl (by kernel_rfl)
   refine co_value hZ hX _ rfl rfl (by decide) (fun _=> ?_) (fun _=> ?_) hc
   ·simp[go_sem,execOp,e1]
   ·simp[go_sem,execOp,e1]
  |2,hp=>
   obtain rfl:=Option.some.inj hp
   have e1:a.tmps[30]?=some (.pointer (some ⟨x.r,0,none⟩)):=hb 1 _ rfl (by kernel_rfl)
   refine co_value hZ hX _ rfl rfl (by decide) (fun _=> ?_) (fun _=> ?_) hc
   ·simp[go_sem,execOp,e1]
   ·simp[go_sem,execOp,e1]
  |3,hp=>
   obtain rfl:=Option.some.inj hp
   have e1:a.tmps[31]?=some (.pointer (some ⟨x.r,12,none⟩)):=hb 2 _ rfl (by kernel_rfl)
   refine co_read hZ hX _ ⟨x.r,12,none⟩ rfl rfl (by decide) (fun w hw=> ?_) (fun w hw=> ?_) ⟨x,hx,.inr rfl⟩ hr hc
   ·have:=hK w hw;simp[go_sem,execOp,e1,this]
   ·have:=hK w hw;simp[go_sem,execOp,e1,this]
  |4,hp=>
   obtain rfl:=Option.some.inj hp
   have e1:a.tmps[5]?=some (.pointer (some ⟨d5,0,none⟩)):=hrest 5 (by simp)
   obtain⟨tm,ds⟩:=a
   have c0:=k5.c 0 _ rfl
   have c1:=k5.c 1 _ rfl
   have c2:=k5.c 2 _ rfl
   have c3:=k5.c 3 _ rfl
   have c4:=k5.c 4 _ rfl
   have c5:=k5.c 5 _ rfl
   have c6:=k5.c 6 _ rfl
   have c7:=k5.c 7 _ rfl
   have c8:=k5.c 8 _ rfl
   have c9:=k5.c 9 _ rfl
   have c10:=k5.c 10 _ rfl
   refine co_op hZ hX TT.toTable (by decide) (R:=fun y u=>y=doneV t q l∧Same u w) rfl rfl (by kernel_rfl) (fun u hu=> ?_) (fun y u hh=>by rw[hh.1];exact co_same hh.2 hc)
   have hcell:∀j,u.cell? ⟨d5,j,none⟩=w.cell? ⟨d5,j,none⟩:=fun j=>by unfold World.cell?;rw[hu.heap]
   refine⟨_,u, ?_,rfl,hu⟩
   simp only[←hcell] at c0 c1 c2 c3 c4 c5 c6 c7 c8 c9 c10
   simp[go_sem,execOp,e1,c0,c1,c2,c3,c4,c5,c6,c7,c8,c9,c10,doneV]
 ·simp only[fin,List.foldl]
  walk_nrm
  have hj0:g.seat κL 0=some (Seat.one x.cb z false home):=by simp[Gh.seat,hm]
  refine co_give hZ hg hoff hear hg0 (Ne.symm hxi) hn (by rw[hm];simp) (c:=x.cb) (z:=z) (val:=doneV t q l) (z':=.tuple #[]) hj0 hseat rfl (a₂:= ?_) (fun w hw=> ?_) ?_ hback
  ·exact G (b63.at ⟨#[.pointer (some ⟨g.s,0,none⟩),.pointer (some ⟨x.r,0,none⟩),J3,Jb,Jn,.pointer (some ⟨d5,0,none⟩),Jw,Jr,Jc,Jp,Jt,Ji,.chan (some x.ct),Jq,Je,Jj,Jl,Jf,Ja,Jg,Jv,Jm,Jh,Js,Jd,Jo,Ju,Jk,Jx,.pointer (some ⟨x.r,0,none⟩),.pointer (some ⟨x.r,0,none⟩),.pointer (some ⟨x.r,12,none⟩),.chan (some x.cb),doneV t q l],[doneC g.s]⟩ [.inRegion (opsC reg6) [5],.inBlock 1,.inLoop lb,.inBlock 0]) [bot]
  ·simp only[reg6,lb,body63,Try.f63,Option.getD_some,sndC,inC,opsC]
   refine(stepG_comm rfl rfl (by decide) (cases:=#[scase x.cb (doneV t q l) (.tuple #[])]) (shape:=.send) (blocking:=true) (w':=w) ?_).trans ?_
   ·simp[go_sem,execOp,Act.eval,scase]
   ·rw[listed_none]
    simp[go_sem,execOp,Act.eval]
  ·intro B hB
   have hs:Go.Conc.served (G (b63.at ⟨#[.pointer (some ⟨g.s,0,none⟩),.pointer (some ⟨x.r,0,none⟩),J3,Jb,Jn,.pointer (some ⟨d5,0,none⟩),Jw,Jr,Jc,Jp,Jt,Ji,.chan (some x.ct),Jq,Je,Jj,Jl,Jf,Ja,Jg,Jv,Jm,Jh,Js,Jd,Jo,Ju,Jk,Jx,.pointer (some ⟨x.r,0,none⟩),.pointer (some ⟨x.r,0,none⟩),.pointer (some ⟨x.r,12,none⟩),.chan (some x.cb),doneV t q l],[doneC g.s]⟩ [.inRegion (opsC reg6) [5],.inBlock 1,.inLoop lb,.inBlock 0]) [bot]) undef=G (b63.at ⟨#[.pointer (some ⟨g.s,0,none⟩),.pointer (some ⟨x.r,0,none⟩),J3,Jb,Jn,.pointer (some ⟨d5,0,none⟩),Jw,Jr,Jc,Jp,Jt,Ji,.chan (some x.ct),Jq,Je,Jj,Jl,Jf,Ja,Jg,Jv,Jm,Jh,Js,Jd,Jo,Ju,Jk,Jx,.pointer (some ⟨x.r,0,none⟩),.pointer (some ⟨x.r,0,none⟩),.pointer (some ⟨x.r,12,none⟩),.chan (some x.cb),doneV t q l],[doneC g.s]⟩ [.inRegion (opsC reg6) [],.inBlock 1,.inLoop lb,.inBlock 0]) [bot]:=by
    rw[served_fr,Frame.finish_at]
    simp only[reg6,lb,body63,Try.f63,Option.getD_some,sndC,inC,opsC]
    rfl
   have hm:(x.i==0)=false:=by simpa using hxi
   rw[hs,hm]
   refine⟨8,sits_of fun w₀=> ?_⟩
   have hJ:Calmly Try.prog false (fun n g'=> ∀w,Goes Try.prog false (RK g.K) (DS g.Still B) (fun g' _=> ∃g₂,AtIn Try.prog false g.K g.Still B (κL.seat g.s x) g' g₂) n g' w):=goes_calmly
   revert w₀
   refine c_region_end (n:=6) hJ ?_
   refine c_inBlock hJ ?_
   refine c_inLoop hJ ?_
   have e1:lb=.seq (fstC lb) (sndC lb):=by simp only[lb,body63,Try.f63,Option.getD_some,sndC,inC,fstC]
   have e2:fstC lb=.region 2 (opsC (fstC lb)) false:=by simp only[lb,body63,Try.f63,Option.getD_some,sndC,inC,fstC,opsC]
   rw[e1]
   refine c_seq (J:=fun n g'=> ∀w,Goes Try.prog false (RK g.K) (DS g.Still B) (fun g' _=> ∃g₂,AtIn Try.prog false g.K g.Still B (κL.seat g.s x) g' g₂) n g' w) hJ ?_
   rw[←e1,e2]
   refine c_region hJ [0,1] (by simp only[lb,body63,Try.f63,Option.getD_some,sndC,inC,fstC,opsC];rfl) ?_
   exact fun w=>Goes.stop (fun _ _=>⟨_,l_at _ _ _ _ _ _ _ _ _ _ _ _ _ _ _ _ _ _ _ _ _ _ _ _ _ _ _ _ _ _ _⟩)
end Co
end Go.Proofs.Ytlngbdggehghgaa

namespace Go.Proofs.Ytlngbdggehghgaa
set_option linter.unusedSimpArgs false
set_option linter.unusedVariables false
theorem Chg.drw {F:Nat→Prop} {w w':World} (h:Chg F w.drew w'):Chg F w w':=⟨h.os,h.output,h.size,h.block⟩
theorem scell {w:World} {a b:Nat} (h:a≠b) {i j:Nat} {x:Value}:(w.setCell ⟨b,j,none⟩ x).cell? ⟨a,i,none⟩=w.cell? ⟨a,i,none⟩:=by
 unfold World.cell? World.setCell
 simp[Array.getElem?_modify,Ne.symm h]
namespace Co
open Go.Conc Go.RowKit
theorem same_chg {F:Nat→Prop} {u v:World} (h:Same u v):Chg F v u:=⟨h.os,h.output,by rw[h.heap];exact Nat.le_refl _,fun k _ _=>by rw[h.heap]⟩
def StepC (o:Option Nat) (t:Tk) (t':Tk) (q':Wa) (Post:Value→World→World→Prop) (W:World):Prop:=match o with
 |none=>Go.Calls Try.prog 104 #[.agg #[],.agg t.cells.toArray] W fun e w'=> ∃A n c,e=.returned (.tuple #[.agg t'.cells.toArray,.agg q'.cells.toArray,.slice A n c])∧Post (.slice A n c) W w'
 |some b=>Go.Calls Try.prog 81 #[.pointer (some ⟨b,0,none⟩),.agg t.cells.toArray] W fun e w'=> ∃A n c,e=.returned (.tuple #[.agg t'.cells.toArray,.agg q'.cells.toArray,.slice A n c])∧Post (.slice A n c) W w'
set_option maxRecDepth 100000 in
set_option maxHeartbeats 4000000 in
theorem worker_turn {Z:Goal} {g:Gh} {x:Wk} {v:World} {o:Option Nat} {t t':Tk} {q':Wa} {Post:Value→World→World→Prop} {F:Nat→Prop} {z:Value} {home:Goroutine→Prop}
 (hZ:Z.Ok Try.prog) (hg:g.Ok x.i) (hg0:g.Ok 0) (hoff:g.off=0) (hear:g.ear=true) (hn:0<g.n) (hm:g.m0=some (Seat.one x.cb z false home)) (hx:x∈g.rs) (hxi:x.i≠0) (hseat:g.seat κL x.i=some (κL.seat g.s x))
 (hr:x.r<v.heap.size) (c0:v.cell? ⟨g.s,0,none⟩=some (WV o)) (hS:∀W,Chg (fun _=>False) v W→StepC o t t' q' Post W) (hP:∀l W w',Post l W w'→Chg F W w') (hF:∀k,F k→k<v.heap.size) (hFs:¬F g.s)
 (hback:∀W w' v' l d,Chg (fun _=>False) v W→Post l W w'→v.heap.size≤d→d<W.heap.size→Chg (fun k=>k=d) w' v'→∀g₂,home g₂→Co Try.prog Z 0 (g.fx Try.prog κL 0) (Go.Conc.served g₂ (recvd false (doneV t' q' l) true)) v'):
 ∀g₂,homeL g.s x g₂→Co Try.prog Z x.i (g.fx Try.prog κL x.i) (Go.Conc.served g₂ (recvd true (.agg t.cells.toArray) true)) v:=by
 rintro g₂ ⟨J3,Jb,Jn,J4,Jw,Jr,Jc,Jp,Jt,Ji,Jq,Je,Jj,Jl,Jf,Ja,Jg,Jv,Jm,Jh,Js,Jd,Jo,Ju,Jk,Jx,Jy,J0,Jz,J1,J2,rfl⟩
 have hX:=hg.fx κL_ok
 have hJ:=Co.calmly (v:=v) hZ hX
 unfold RL
 simp only[todoL,lb,body63,Try.f63,Option.getD_some,sndC,fstC,inC,opsC]
 rw[served_fr,Frame.finish_at]
 simp only[recvd,if_true,Tk.cells]
 walk_nrm
 refine c_value (n:=0) (J:=fun _ a=>Co Try.prog Z x.i (g.fx Try.prog κL x.i) a v) hJ (.bool true) rfl rfl (by decide) (fun _=>by go_simp;try (first|decide|assumption|omega|(simp only[*];done)|simp[*])) (fun _=>by simp[go_sem, *]) ?_
 walk_nrm
 refine c_region_end (n:=0) (J:=fun _ a=>Co Try.prog Z x.i (g.fx Try.prog κL x.i) a v) hJ ?_
 refine c_seq (n:=0) (J:=fun _ a=>Co Try.prog Z x.i (g.fx Try.prog κL x.i) a v) hJ ?_
 refine c_cond (n:=0) (J:=fun _ a=>Co Try.prog Z x.i (g.fx Try.prog κL x.i) a v) hJ true (by first|rfl|(simp[Act.eval, *])) ?_
 simp only[↓reduceIte]
 refine c_skip (n:=0) (J:=fun _ a=>Co Try.prog Z x.i (g.fx Try.prog κL x.i) a v) hJ ?_
 refine c_block (n:=0) (J:=fun _ a=>Co Try.prog Z x.i (g.fx Try.prog κL x.i) a v) hJ ?_
 refine c_seq (n:=0) (J:=fun _ a=>Co Try.prog Z x.i (g.fx Try.prog κL x.i) a v) hJ ?_
 refine co_code hZ hX TT (by decide) (by kernel_rfl) (by kernel_rfl) fun K hK u hu=> ?_
 go_wp2_with fail
 refine hK.out _ _ ?_
 obtain⟨d4,hd4,k4,e1⟩:∃d4,v.heap.size≤d4∧Cells (u.alloc (.cells #[.int .i64 t.id,.int .i64 t.kind,.int .i64 t.pc,.int .i64 t.a,.int .i64 t.b,.int .i64 t.c,.int .i64 t.d] 35)) d4 [.int .i64 t.id,.int .i64 t.kind,.int .i64 t.pc,.int .i64 t.a,.int .i64 t.b,.int .i64 t.c,.int .i64 t.d]∧Chg (fun _=>False) v (u.alloc (.cells #[.int .i64 t.id,.int .i64 t.kind,.int .i64 t.pc,.int .i64 t.a,.int .i64 t.b,.int .i64 t.c,.int .i64 t.d] 35))∧d4=u.heap.size:=
  ⟨u.heap.size,by rw[hu.heap];exact Nat.le_refl _,Cells.new _ _ _,(same_chg hu).trans (Chg.alloc (fun _=>False) _ _) (fun _ _=>id),rfl⟩
 obtain⟨e1,e4⟩:=e1
 rw[←e4]
 generalize u.alloc (.cells #[.int .i64 t.id,.int .i64 t.kind,.int .i64 t.pc,.int .i64 t.a,.int .i64 t.b,.int .i64 t.c,.int .i64 t.d] 35)=v1 at k4 e1⊢
 clear e4 hK K hu u hJ
 refine c_seq (n:=0) (J:=fun _ a=>Co Try.prog Z x.i (g.fx Try.prog κL x.i) a v1) (Co.calmly hZ hX) ?_
 refine co_code hZ hX TT (by decide) (by kernel_rfl) (by kernel_rfl) fun K hK u hu=> ?_
 go_wp2_with fail
 refine hK.out _ _ ?_
 obtain⟨d5,hd5,k5,e2,e5⟩:∃d5,d4<d5∧Cells (u.alloc (.cells #[.int .i64 0,.int .i64 0,.int .i64 0,.int .i64 0,.int .i64 0,.int .i64 0,.int .i64 0,.int .i64 0,.int .i64 0,.int .i64 0,.slice none 0 0] 115)) d5 [.int .i64 0,.int .i64 0,.int .i64 0,.int .i64 0,.int .i64 0,.int .i64 0,.int .i64 0,.int .i64 0,.int .i64 0,.int .i64 0,.slice none 0 0]∧Chg (fun _=>False) v1 (u.alloc (.cells #[.int .i64 0,.int .i64 0,.int .i64 0,.int .i64 0,.int .i64 0,.int .i64 0,.int .i64 0,.int .i64 0,.int .i64 0,.int .i64 0,.slice none 0 0] 115))∧d5=u.heap.size:=
  ⟨u.heap.size,by rw[hu.heap];exact k4.lt,Cells.new _ _ _,(same_chg hu).trans (Chg.alloc (fun _=>False) _ _) (fun _ _=>id),rfl⟩
 rw[←e5]
 replace k4:=k4.chg e2 id
 replace e1:=e1.trans e2 (fun _ _=>id)
 generalize u.alloc (.cells #[.int .i64 0,.int .i64 0,.int .i64 0,.int .i64 0,.int .i64 0,.int .i64 0,.int .i64 0,.int .i64 0,.int .i64 0,.int .i64 0,.slice none 0 0] 115)=v2 at k4 k5 e1⊢
 clear e5 e2 hK K hu u
 refine c_seq (n:=0) (J:=fun _ a=>Co Try.prog Z x.i (g.fx Try.prog κL x.i) a v2) (Co.calmly hZ hX) ?_
 refine co_code hZ hX TT (by decide) (by kernel_rfl) (by kernel_rfl) fun K hK u hu=> ?_
 have cu:=(same_chg (F:=fun _=>False) hu).cell (e1.cell c0 id) id
 have S5:=Hd.mk (fun W (hW:Chg (fun _=>False) u W)=>hS W (e1.trans ((same_chg hu).trans hW (fun _ _=>id)) (fun _ _=>id)))
 have A4:=k4.chg (same_chg (F:=fun _=>False) hu) id
 have A5:=k5.chg (same_chg (F:=fun _=>False) hu) id
 have y0:=A4.c 0 _ rfl
 have y1:=A4.c 1 _ rfl
 have y2:=A4.c 2 _ rfl
 have y3:=A4.c 3 _ rfl
 have y4:=A4.c 4 _ rfl
 have y5:=A4.c 5 _ rfl
 have y6:=A4.c 6 _ rfl
 have yf:=A4.f
 have yl:=A4.lt
 have z0:=A5.c 0 _ rfl
 have z1:=A5.c 1 _ rfl
 have z2:=A5.c 2 _ rfl
 have z3:=A5.c 3 _ rfl
 have z4:=A5.c 4 _ rfl
 have z5:=A5.c 5 _ rfl
 have z6:=A5.c 6 _ rfl
 have z7:=A5.c 7 _ rfl
 have z8:=A5.c 8 _ rfl
 have z9:=A5.c 9 _ rfl
 have z10:=A5.c 10 _ rfl
 have zf:=A5.f
 have zl:=A5.lt
 have HP:=Hd.mk hP
 have A4:=Hd.mk A4
 have A5:=Hd.mk A5
 have n4:¬F d4:=fun e=>by have:=hF _ e;omega
 have n5:¬F d5:=fun e=>by have:=hF _ e;omega
 have hgs:g.s<v.heap.size:=World.block_lt_of_cell? _ _ c0
 have ne45:d4≠d5:=by omega
 have nes4:g.s≠d4:=by omega
 have nes5:g.s≠d5:=by omega
 clear hS hP
 have hm':=hm
 clear hm
 cases o with
 |none=>
  simp only[StepC,Tk.cells,Wa.cells] at S5
  simp only[WV] at cu
  have hm:=meth_st0
  go_region_held3 (fun W=>W.cell? ⟨g.s,0,none⟩=some (.iface 71 (.agg #[]))∧W.cell? ⟨d4,0,none⟩=some (.int .i64 t.id)∧W.cell? ⟨d4,1,none⟩=some (.int .i64 t.kind)∧W.cell? ⟨d4,2,none⟩=some (.int .i64 t.pc)∧W.cell? ⟨d4,3,none⟩=some (.int .i64 t.a)∧W.cell? ⟨d4,4,none⟩=some (.int .i64 t.b)∧W.cell? ⟨d4,5,none⟩=some (.int .i64 t.c)∧W.cell? ⟨d4,6,none⟩=some (.int .i64 t.d))
   (exact⟨by((repeat(first|rw[scell nes5]|rw[scell ne45]));first|with_reducible assumption|exact cu),by((repeat(first|rw[scell nes5]|rw[scell ne45]));first|with_reducible assumption|exact y0),by((repeat(first|rw[scell nes5]|rw[scell ne45]));first|with_reducible assumption|exact y1),by((repeat(first|rw[scell nes5]|rw[scell ne45]));first|with_reducible assumption|exact y2),by((repeat(first|rw[scell nes5]|rw[scell ne45]));first|with_reducible assumption|exact y3),by((repeat(first|rw[scell nes5]|rw[scell ne45]));first|with_reducible assumption|exact y4),by((repeat(first|rw[scell nes5]|rw[scell ne45]));first|with_reducible assumption|exact y5),by((repeat(first|rw[scell nes5]|rw[scell ne45]));first|with_reducible assumption|exact y6)⟩)
   (first|(go_at_call 104;refine(S5.out _ (Chg.drew _ _)).mono ?_;rintro e w5 ⟨lA,ln,lc,rfl,hp⟩;have C5:=HP.out _ _ _ hp;have HP5:=Hd.mk hp;clear hp;have B4:=A4.out.chg (C5.drw) n4;have B5:=A5.out.chg (C5.drw) n5;have cs0:=C5.drw.cell cu hFs;have yy0:=B4.c 0 _ rfl;have yy1:=B4.c 1 _ rfl;have yy2:=B4.c 2 _ rfl;have yy3:=B4.c 3 _ rfl;have yy4:=B4.c 4 _ rfl;have yy5:=B4.c 5 _ rfl;have yy6:=B4.c 6 _ rfl;have yyf:=B4.f;have yyl:=B4.lt;have zz0:=B5.c 0 _ rfl;have zz1:=B5.c 1 _ rfl;have zz2:=B5.c 2 _ rfl;have zz3:=B5.c 3 _ rfl;have zz4:=B5.c 4 _ rfl;have zz5:=B5.c 5 _ rfl;have zz6:=B5.c 6 _ rfl;have zz7:=B5.c 7 _ rfl;have zz8:=B5.c 8 _ rfl;have zz9:=B5.c 9 _ rfl;have zz10:=B5.c 10 _ rfl;have zzf:=B5.f;have zzl:=B5.lt;clear B4 B5)|fail)
  refine⟨rfl,rfl,hK.out _ _ ?_⟩
  have PP:=(Cells.mk (W:=w5) (g:=d5) (cs:=[.int .i64 0,.int .i64 0,.int .i64 0,.int .i64 0,.int .i64 0,.int .i64 0,.int .i64 0,.int .i64 0,.int .i64 0,.int .i64 0,.slice none 0 0]) (fun j y hy=>by
   match j,hy with
   |0,hy=>exact(Option.some.inj hy)▸zz0
   |1,hy=>exact(Option.some.inj hy)▸zz1
   |2,hy=>exact(Option.some.inj hy)▸zz2
   |3,hy=>exact(Option.some.inj hy)▸zz3
   |4,hy=>exact(Option.some.inj hy)▸zz4
   |5,hy=>exact(Option.some.inj hy)▸zz5
   |6,hy=>exact(Option.some.inj hy)▸zz6
   |7,hy=>exact(Option.some.inj hy)▸zz7
   |8,hy=>exact(Option.some.inj hy)▸zz8
   |9,hy=>exact(Option.some.inj hy)▸zz9
   |10,hy=>exact(Option.some.inj hy)▸zz10) zzf zzl).put (doneL t' q' (.slice lA ln lc)) rfl
  have hcu:Chg (fun _=>False) v u.drew:=e1.trans ((same_chg hu).trans (Chg.drew _ _) (fun _ _=>id)) (fun _ _=>id)
  have HB:=hback _ _ _ _ _ hcu HP5.out (Nat.le_trans hd4 (Nat.le_of_lt hd5)) (by simpa using zl) (Chg.grown PP.2 (F:=fun k=>k=d5) (fun k e=>(Option.some.inj e).symm))
  change Co Try.prog Z x.i _ (WSn g.s x d5 _ _ _ _ _ _ _ _ _ _ _ _ _ _ _ _ _ _ _ _ _ _ _ _ _ _ _ _ _ _) (putAt w5 d5 0 (doneL t' q' (.slice lA ln lc)))
  refine worker_send (t:=t') (q:=q') (l:=.slice lA ln lc) hZ hg hg0 hoff hear hn hm' hx hxi hseat (Nat.lt_of_lt_of_le hr (Nat.le_trans hcu.size (Nat.le_trans C5.size PP.2.size))) PP.1 HB _ _ _ _ _ _ _ _ _ _ _ _ _ _ _ _ _ _ _ _ _ _ _ _ _ _ _ _ _ _
 |some b0=>
  simp only[StepC,Tk.cells,Wa.cells] at S5
  simp only[WV] at cu
  have hm:=meth_st1 b0
  go_region_held3 (fun W=>W.cell? ⟨g.s,0,none⟩=some (.iface 27 (.pointer (some ⟨b0,0,none⟩)))∧W.cell? ⟨d4,0,none⟩=some (.int .i64 t.id)∧W.cell? ⟨d4,1,none⟩=some (.int .i64 t.kind)∧W.cell? ⟨d4,2,none⟩=some (.int .i64 t.pc)∧W.cell? ⟨d4,3,none⟩=some (.int .i64 t.a)∧W.cell? ⟨d4,4,none⟩=some (.int .i64 t.b)∧W.cell? ⟨d4,5,none⟩=some (.int .i64 t.c)∧W.cell? ⟨d4,6,none⟩=some (.int .i64 t.d))
   (exact⟨by((repeat(first|rw[scell nes5]|rw[scell ne45]));first|with_reducible assumption|exact cu),by((repeat(first|rw[scell nes5]|rw[scell ne45]));first|with_reducible assumption|exact y0),by((repeat(first|rw[scell nes5]|rw[scell ne45]));first|with_reducible assumption|exact y1),by((repeat(first|rw[scell nes5]|rw[scell ne45]));first|with_reducible assumption|exact y2),by((repeat(first|rw[scell nes5]|rw[scell ne45]));first|with_reducible assumption|exact y3),by((repeat(first|rw[scell nes5]|rw[scell ne45]));first|with_reducible assumption|exact y4),by((repeat(first|rw[scell nes5]|rw[scell ne45]));first|with_reducible assumption|exact y5),by((repeat(first|rw[scell nes5]|rw[scell ne45]));first|with_reducible assumption|exact y6)⟩)
   (first|(go_at_call 81;refine(S5.out _ (Chg.drew _ _)).mono ?_;rintro e w5 ⟨lA,ln,lc,rfl,hp⟩;have C5:=HP.out _ _ _ hp;have HP5:=Hd.mk hp;clear hp;have B4:=A4.out.chg (C5.drw) n4;have B5:=A5.out.chg (C5.drw) n5;have cs0:=C5.drw.cell cu hFs;have yy0:=B4.c 0 _ rfl;have yy1:=B4.c 1 _ rfl;have yy2:=B4.c 2 _ rfl;have yy3:=B4.c 3 _ rfl;have yy4:=B4.c 4 _ rfl;have yy5:=B4.c 5 _ rfl;have yy6:=B4.c 6 _ rfl;have yyf:=B4.f;have yyl:=B4.lt;have zz0:=B5.c 0 _ rfl;have zz1:=B5.c 1 _ rfl;have zz2:=B5.c 2 _ rfl;have zz3:=B5.c 3 _ rfl;have zz4:=B5.c 4 _ rfl;have zz5:=B5.c 5 _ rfl;have zz6:=B5.c 6 _ rfl;have zz7:=B5.c 7 _ rfl;have zz8:=B5.c 8 _ rfl;have zz9:=B5.c 9 _ rfl;have zz10:=B5.c 10 _ rfl;have zzf:=B5.f;have zzl:=B5.lt;clear B4 B5)|fail)
  refine⟨rfl,rfl,hK.out _ _ ?_⟩
  have PP:=(Cells.mk (W:=w5) (g:=d5) (cs:=[.int .i64 0,.int .i64 0,.int .i64 0,.int .i64 0,.int .i64 0,.int .i64 0,.int .i64 0,.int .i64 0,.int .i64 0,.int .i64 0,.slice none 0 0]) (fun j y hy=>by
   match j,hy with
   |0,hy=>exact(Option.some.inj hy)▸zz0
   |1,hy=>exact(Option.some.inj hy)▸zz1
   |2,hy=>exact(Option.some.inj hy)▸zz2
   |3,hy=>exact(Option.some.inj hy)▸zz3
   |4,hy=>exact(Option.some.inj hy)▸zz4
   |5,hy=>exact(Option.some.inj hy)▸zz5
   |6,hy=>exact(Option.some.inj hy)▸zz6
   |7,hy=>exact(Option.some.inj hy)▸zz7
   |8,hy=>exact(Option.some.inj hy)▸zz8
   |9,hy=>exact(Option.some.inj hy)▸zz9
   |10,hy=>exact(Option.some.inj hy)▸zz10) zzf zzl).put (doneL t' q' (.slice lA ln lc)) rfl
  have hcu:Chg (fun _=>False) v u.drew:=e1.trans ((same_chg hu).trans (Chg.drew _ _) (fun _ _=>id)) (fun _ _=>id)
  have HB:=hback _ _ _ _ _ hcu HP5.out (Nat.le_trans hd4 (Nat.le_of_lt hd5)) (by simpa using zl) (Chg.grown PP.2 (F:=fun k=>k=d5) (fun k e=>(Option.some.inj e).symm))
  change Co Try.prog Z x.i _ (WSn g.s x d5 _ _ _ _ _ _ _ _ _ _ _ _ _ _ _ _ _ _ _ _ _ _ _ _ _ _ _ _ _ _) (putAt w5 d5 0 (doneL t' q' (.slice lA ln lc)))
  refine worker_send (t:=t') (q:=q') (l:=.slice lA ln lc) hZ hg hg0 hoff hear hn hm' hx hxi hseat (Nat.lt_of_lt_of_le hr (Nat.le_trans hcu.size (Nat.le_trans C5.size PP.2.size))) PP.1 HB _ _ _ _ _ _ _ _ _ _ _ _ _ _ _ _ _ _ _ _ _ _ _ _ _ _ _ _ _ _
end Co
end Go.Proofs.Ytlngbdggehghgaa

namespace Go.Proofs.Ytlngbdggehghgaa
set_option linter.unusedSimpArgs false
set_option linter.unusedVariables false
theorem Cells.age {w:World} {b:Nat} {r:Ru} (h:Cells w b r.cells) (a:Int):Cells (w.setCell ⟨b,10,none⟩ (.int .i64 a)) b ({r with age:=a}:Ru).cells:=by
 refine⟨fun j u hu=> ?_,fun j=>by simp[h.f j],by simpa using h.lt⟩
 by_cases e:j=10
 ·subst e
  have h10:=h.c 10 (.int .i64 r.age) rfl
  rw[World.cell?_setCell_same w _ _ (by rw[h10])]
  exact hu
 ·rw[World.cell?_setCell_other w _ _ _ (fun e2=>by injection e2;omega)]
  refine h.c j u ?_
  match j,hu,e with
  |0,hu,_=>exact hu
  |1,hu,_=>exact hu
  |2,hu,_=>exact hu
  |3,hu,_=>exact hu
  |4,hu,_=>exact hu
  |5,hu,_=>exact hu
  |6,hu,_=>exact hu
  |7,hu,_=>exact hu
  |8,hu,_=>exact hu
  |9,hu,_=>exact hu
  |n+11,hu,_=>simp[Ru.cells,Tk.cells,Wa.cells] at hu
def agedR (L:List Nat) (i k:Nat) (r:Ru):Ru:={r with age:=if k=i then 0 else if k∈L then r.age+1 else 0}
theorem nd_inj {bs:List Nat} (hn:bs.Nodup) {i j b:Nat} (hi:bs[i]?=some b) (hj:bs[j]?=some b):i=j:=by
 obtain⟨h1,e1⟩:=List.getElem?_eq_some_iff.1 hi
 obtain⟨h2,e2⟩:=List.getElem?_eq_some_iff.1 hj
 exact(List.getElem_inj hn).1 (e1.trans e2.symm)
theorem bxs_mem {bs:List Nat} (hn:bs.Nodup) {L:List Nat} (hL:∀i∈L,i<bs.length) {k b:Nat} (hb:bs[k]?=some b):b∈bxs bs L↔k∈L:=by
 unfold bxs
 rw[List.mem_map]
 constructor
 ·rintro⟨i,hi,e⟩
  have hi2:bs[i]?=some b:=by
   have:=List.getElem?_eq_getElem (hL i hi)
   rw[this]
   rw[List.getD_eq_getElem?_getD,this] at e
   exact congrArg some e
  rw[nd_inj hn hb hi2]
  exact hi
 ·intro hk
  exact⟨k,hk,by rw[List.getD_eq_getElem?_getD,hb];rfl⟩
namespace Co
open Go.Conc Go.RowKit
noncomputable def body32:Code:=Try.f32.body.getD .skip
set_option maxRecDepth 100000 in
set_option maxHeartbeats 4000000 in
theorem give_ages {Z:Goal} {X:Fx} {o:Option Nat} {B s b i:Nat} {bs:List Nat} {tv uv lv:Value} {S:SS} {v:World} {L:List Nat} {ds:List Deferred} {k:List Item} {cs:List Frame}
 (hZ:Z.Ok Try.prog) (hX:X.Ok Try.prog 0) (h:SM o B s bs tv uv S v) (hl:Sl ptR v lv (bxs bs L)) (hL:∀i∈L,i<S.rs.length) (hLl:L.length≤200) (hb:bs[i]?=some b) (hls:∀k,lv.ownBlock=some k→k∉bs)
 (hnext:∀(v':World) (Jb Jn J4 Jw Jr Jc Jp Jt Ji Ye Jq Je Jj Jl Jf Ja Jg Jv Jm Jh Js Jd Jo Ju Jk Jx Jy J0 Jz J1 J2 Yi Ys Yz J8 Ql Yl Y1 Qo Qi Qd Y0 Yn Yy Qk Yg Yo Ya Y9 Y8 Yu Qj Yk Y6 Yb Qc Yj J9 Yq Qp Qg Qb Yh Qs Yp Y2 J7 Y3 Qn Qf Y4 Ym Qm Y7 Yt Qh Qr Qe Qa Qq Yf Yv Yc Yd Yw Yx Y5 J6 Yr J5:Value),Chg (fun k=>k∈bs) v v'→(∀(k b:Nat) (r:Ru),bs[k]?=some b→S.rs[k]?=some r→Cells v' b (agedR L i k r).cells)→
  Co Try.prog Z 0 X (G ((Go.Conc.base 32).at ⟨#[.pointer (some ⟨s,0,none⟩),lv,.pointer (some ⟨b,0,none⟩),Jb,Jn,J4,Jw,Jr,Jc,Jp,Jt,Ji,Ye,Jq,Je,Jj,Jl,Jf,Ja,Jg,Jv,Jm,Jh,Js,Jd,Jo,Ju,Jk,Jx,Jy,J0,Jz,J1,J2,Yi,Ys,Yz,J8,Ql,Yl,Y1,Qo,Qi,Qd,Y0,Yn,Yy,Qk,Yg,Yo,Ya,Y9,Y8,Yu,Qj,Yk,Y6,Yb,Qc,Yj,J9,Yq,Qp,Qg,Qb,Yh,Qs,Yp,Y2,J7,Y3,Qn,Qf,Y4,Ym,Qm,Y7,Yt,Qh,Qr,Qe,Qa,Qq,Yf,Yv,Yc,Yd,Yw,Yx,Y5,J6,Yr,J5],ds⟩ k) cs) v'):
 ∀(Jb Jn J4 Jw Jr Jc Jp Jt Ji Ye Jq Je Jj Jl Jf Ja Jg Jv Jm Jh Js Jd Jo Ju Jk Jx Jy J0 Jz J1 J2 Yi Ys Yz J8 Ql Yl Y1 Qo Qi Qd Y0 Yn Yy Qk Yg Yo Ya Y9 Y8 Yu Qj Yk Y6 Yb Qc Yj J9 Yq Qp Qg Qb Yh Qs Yp Y2 J7 Y3 Qn Qf Y4 Ym Qm Y7 Yt Qh Qr Qe Qa Qq Yf Yv Yc Yd Yw Yx Y5 J6 Yr J5:Value),Co Try.prog Z 0 X (G ((Go.Conc.base 32).at ⟨#[.pointer (some ⟨s,0,none⟩),lv,.pointer (some ⟨b,0,none⟩),Jb,Jn,J4,Jw,Jr,Jc,Jp,Jt,Ji,Ye,Jq,Je,Jj,Jl,Jf,Ja,Jg,Jv,Jm,Jh,Js,Jd,Jo,Ju,Jk,Jx,Jy,J0,Jz,J1,J2,Yi,Ys,Yz,J8,Ql,Yl,Y1,Qo,Qi,Qd,Y0,Yn,Yy,Qk,Yg,Yo,Ya,Y9,Y8,Yu,Qj,Yk,Y6,Yb,Qc,Yj,J9,Yq,Qp,Qg,Qb,Yh,Qs,Yp,Y2,J7,Y3,Qn,Qf,Y4,Ym,Qm,Y7,Yt,Qh,Qr,Qe,Qa,Qq,Yf,Yv,Yc,Yd,Yw,Yx,Y5,J6,Yr,J5],ds⟩ (.code (fstC body32)::k)) cs) v:=by
 intro Jb Jn J4 Jw Jr Jc Jp Jt Ji Ye Jq Je Jj Jl Jf Ja Jg Jv Jm Jh Js Jd Jo Ju Jk Jx Jy J0 Jz J1 J2 Yi Ys Yz J8 Ql Yl Y1 Qo Qi Qd Y0 Yn Yy Qk Yg Yo Ya Y9 Y8 Yu Qj Yk Y6 Yb Qc Yj J9 Yq Qp Qg Qb Yh Qs Yp Y2 J7 Y3 Qn Qf Y4 Ym Qm Y7 Yt Qh Qr Qe Qa Qq Yf Yv Yc Yd Yw Yx Y5 J6 Yr J5
 simp only[body32,Try.f32,Option.getD_some,fstC]
 refine co_code hZ hX TT (by decide) (by kernel_rfl) (by kernel_rfl) fun K hK u hu=> ?_
 have h:=h.chg (same_chg (F:=fun _=>False) hu) (fun _ _=>id)
 have hl:=hl.chg ptR_flat (same_chg (F:=fun _=>False) hu) (fun _ _=>id)
 have HV:=Hd.mk (same_chg (F:=fun k=>k∈bs) hu)
 have HN:=Hd.mk hnext
 clear hu hnext
 have c1:=h.box.c 1 _ rfl
 obtain⟨A,c,rfl,hlc,hc⟩:=h.lenv
 have hlen:=h.ok.few
 have hbl:=h.len
 have HH:=Lib.hid h
 have HL:=Lib.hid hl
 have HLL:=Lib.hid hL
 have HB:=Lib.hid hb
 have HLS:=Lib.hid hls
 clear h hl hL hb hls
 go_wp2_with fail
 go_loopw [14] (fun i₀ wr=> ∃k:Nat,k≤S.rs.length∧i₀=.int .i64 k∧Hid (Chg (fun k=>k∈bs) u wr)∧Hid (∀(j b:Nat) (r:Ru),bs[j]?=some b→S.rs[j]?=some r→Cells wr b (if j<k then agedR L i j r else r).cells)) (fun i₀ _=>S.rs.length-(intOf i₀).toNat)
 case atStart=>exact⟨0,by omega,rfl,Chg.refl _ _,fun j b r hb hr=>by rw[if_neg (by omega)];exact HH.out.runs j b r hb hr⟩
 case round=>
  obtain⟨k,hk,rfl,hcg,hown⟩:=hrel
  by_cases hlt:k<S.rs.length
  ·obtain⟨bk,hbk,hcell⟩:=HH.out.run hlt
   obtain⟨A',c',hA,_,_,hp⟩:=HH.out.ptr hbk
   injection hA with hA1 hA2 hA3
   subst hA1 hA3
   clear hA2
   have hrk:S.rs[k]?=some S.rs[k]:=List.getElem?_eq_getElem hlt
   have Hrk:=Lib.hid hrk
   have hsn:s∉bs:=HH.out.sb
   have hAp:=(HH.out.ap A' rfl).2
   have hbl2:=hbl
   have D1:=Lib.hid (bxs_mem HH.out.nd (fun i hi=>by rw[hbl2];exact HLL.out i hi) hbk)
   have D2:=Lib.hid (show bk=b↔k=i from⟨fun e=>nd_inj HH.out.nd hbk (e▸HB.out),fun e=>by subst e;exact Option.some.inj (hbk.symm.trans HB.out)⟩)
   have Hbk:=Lib.hid hbk
   have c11:=hcg.out.cell c1 hsn
   have hp1:=hcg.out.cell hp hAp
   have ck:Cells wr bk (S.rs[k]).cells:=by
    have h1:=hown.out k bk _ hbk hrk
    rwa[if_neg (by omega)] at h1
   have hi2:i<S.rs.length:=by
    have:=(List.getElem?_eq_some_iff.1 HB.out).1
    omega
   have ci:∃u0 cs0,Cells wr b (u0::cs0):=by
    have h1:=hown.out i b _ HB.out (List.getElem?_eq_getElem hi2)
    exact⟨_,_,h1⟩
   obtain⟨u0,cs0,ci⟩:=ci
   have heq:=run_eql_ptr ck ci
   have CT:=Lib.hid (Contains_any lv (bxs bs L) bk wr (HL.out.chg ptR_flat hcg.out (fun j hj=>HLS.out j hj)) (by simpa[bxs] using hLl) ck (fun p hp=>by
    unfold bxs at hp
    rw[List.mem_map] at hp
    obtain⟨m,hm,rfl⟩:=hp
    have hm2:=HLL.out m hm
    have h1:=hown.out m (bs.getD m 0) _ (by rw[List.getD_eq_getElem?_getD,List.getElem?_eq_getElem (by omega)];rfl) (List.getElem?_eq_getElem hm2)
    exact⟨_,_,h1⟩))
   have d10:=ck.c 10 _ rfl
   have df:=ck.f 10
   have CK:=Lib.hid ck
   have hmem:bk∈bs:=List.mem_of_getElem? hbk
   have hag:0≤S.rs[k].age∧S.rs[k].age≤20000:=by
    have h1:=HH.out.ok.age _ (List.getElem_mem hlt)
    have h2:=HH.out.ok.cnt
    have h3:=HH.out.ok.most
    omega
   generalize S.rs[k]=rk at hrk d10 CK Hrk hag
   have FIN:=Lib.hid (fun(a:Int) (ha:(agedR L i k rk).age=a)=>show∃k':Nat,k'≤S.rs.length∧Value.int .i64 ((k:Int)+1)=.int .i64 (k':Int)∧Hid (Chg (fun k=>k∈bs) u (wr.setCell ⟨bk,10,none⟩ (.int .i64 a)))∧Hid (∀(j b:Nat) (r:Ru),bs[j]?=some b→S.rs[j]?=some r→Cells (wr.setCell ⟨bk,10,none⟩ (.int .i64 a)) b (if j<k' then agedR L i j r else r).cells) from by
    refine⟨k+1,hlt,by simp,hcg.out.trans (Chg.set wr _ hmem) (fun _ _=>id),fun j b' r hj hr=> ?_⟩
    by_cases e:j=k
    ·subst e
     have e1:bk=b':=Option.some.inj (hbk.symm.trans hj)
     have e2:rk=r:=Option.some.inj (Hrk.out.symm.trans hr)
     subst e1 e2
     rw[if_pos (by omega)]
     have h1:=CK.out.age a
     rw[←ha] at h1⊢
     exact h1
    ·have hne:b'≠bk:=fun e2=>e (nd_inj HH.out.nd hj (e2▸hbk))
     have h1:=(hown.out j b' r hj hr).chg (Chg.set (F:=fun x=>x=bk) wr (.int .i64 a) (a:=⟨bk,10,none⟩) rfl) hne
     by_cases e3:j<k
     ·rw[if_pos e3] at h1
      rw[if_pos (by omega)]
      exact h1
     ·rw[if_neg e3] at h1
      rw[if_neg (by omega)]
      exact h1)
   clear hbk hrk Hbk hmem ck ci hsn hAp hcell hp Hrk CK
   by_cases hq:k=i
   ·rw[decide_eq_true (D2.out.2 hq)] at heq
    have FIN2:=FIN.out 0 (by simp[agedR,hq])
    clear hq CT D1 D2 FIN
    go_wp2_with fail
    go_roundw
    case rel=>exact FIN2
    case measure=>simp[intOf];omega
   ·rw[decide_eq_false (fun e=>hq (D2.out.1 e))] at heq
    by_cases hq2:k∈L
    ·have CT2:Hid (Go.Calls Try.prog 50 #[lv,.pointer (some ⟨bk,0,none⟩)] wr fun e w'=>e=.returned (.bool true)∧w'=wr):=by
      have h1:=CT.out
      rw[decide_eq_true (D1.out.2 hq2)] at h1
      exact h1
     have FIN2:=FIN.out (rk.age+1) (by simp[agedR,hq,hq2])
     clear hq hq2 CT D1 D2 FIN
     go_wp2_with (go_at_call 50;refine CT2.out.mono ?_;rintro e w1 ⟨rfl,rfl⟩)
     go_roundw
     case rel=>exact FIN2
     case measure=>simp[intOf];omega
    ·have CT2:Hid (Go.Calls Try.prog 50 #[lv,.pointer (some ⟨bk,0,none⟩)] wr fun e w'=>e=.returned (.bool false)∧w'=wr):=by
      have h1:=CT.out
      rw[decide_eq_false (fun e=>hq2 (D1.out.1 e))] at h1
      exact h1
     have FIN2:=FIN.out 0 (by simp[agedR,hq,hq2])
     clear hq hq2 CT D1 D2 FIN
     go_wp2_with (go_at_call 50;refine CT2.out.mono ?_;rintro e w1 ⟨rfl,rfl⟩)
     go_roundw
     case rel=>exact FIN2
     case measure=>simp[intOf];omega
  ·have hke:k=S.rs.length:=by omega
   have HK:=Lib.hid hke
   clear hke
   have c11:=hcg.out.cell c1 HH.out.sb
   go_wp2_with fail
   refine hK.out _ _ (HN.out _ _ _ _ _ _ _ _ _ _ _ _ _ _ _ _ _ _ _ _ _ _ _ _ _ _ _ _ _ _ _ _ _ _ _ _ _ _ _ _ _ _ _ _ _ _ _ _ _ _ _ _ _ _ _ _ _ _ _ _ _ _ _ _ _ _ _ _ _ _ _ _ _ _ _ _ _ _ _ _ _ _ _ _ _ _ _ _ _ _ _ (HV.out.trans hcg.out (fun _ _=>id)) fun j b' r hj hr=> ?_)
   have h1:=hown.out j b' r hj hr
   rwa[if_pos (by rw[HK.out];exact(List.getElem?_eq_some_iff.1 hr).1)] at h1
end Co
end Go.Proofs.Ytlngbdggehghgaa

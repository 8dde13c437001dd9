/-
  While main waits (one waiter is counted): the doers' steps, down to the last, who wakes main. Conditions: as each theorem says.
  Main says a word at the group while it is counted as one that waits; it waits at the semaphore till the last worker wakes it. Conditions: as each theorem says.
  Main has waited: what the workers did is known to it; there is no scheduler any more. Conditions: as each theorem says.
-/
import Derived.Test.YtlngbdggehghgaaCoT
namespace Go.Proofs.Ytlngbdggehghgaa
set_option linter.unusedSimpArgs false
set_option linter.unusedVariables false
namespace Co
open Go.Conc
open Go.ConcN (sumTo upd sumTo_upd upd_ne upd_same)
inductive Late (P:Program) (κ:Kit) (g:Gh) (B:Nat) (A:Nat→Prop) (T:Trace) (gs:Array Goroutine) (w:World) (q:Nat→Nat):Prop
 |run:1≤busy A g.gone→w.cell? (c5 g.s)=some (.int .u64 (((busy A g.gone:Nat):Int)*KK+1))→w.cell? (c6 g.s)=some (.int .u32 0)→(∀x∈g.gone,A x.i→∃gr,gs[x.i]?=some gr∧Doer P κ g B T x (q x.i) gr)→Late P κ g B A T gs w q
 |tail {x:Wk} {st:Nat} {gr:Goroutine}:x∈g.gone→(∀i,A i↔i=x.i)→gs[x.i]?=some gr→Tail P g.s (q x.i) st gr→Deaf T x.i=1→Rel g.s T x.i→w.cell? (c5 g.s)=some (.int .u64 (if st=1 then 0 else 1))→w.cell? (c6 g.s)=some (.int .u32 0)→Late P κ g B A T gs w q
 |done:(∀i,¬A i)→w.cell? (c5 g.s)=some (.int .u64 0)→w.cell? (c6 g.s)=some (.int .u32 1)→Late P κ g B A T gs w q
structure Gh.Ex2 (P:Program) (κ:Kit) (g:Gh) (B:Nat) (A:Nat→Prop) (T:Trace) (gs:Array Goroutine) (w:World) (q:Nat→Nat):Prop where
 sub:∀i,A i→∃x∈g.gone,x.i=i
 late:Late P κ g B A T gs w q
 rest:∀x∈g.gone,¬A x.i→Rel g.s T x.i
 low:∀x∈g.gone,x.ct<B
 lowS:g.on=true→g.s<B
 deaf0:g.ear=false→Deaf T 0=1
 norel:∀k a,T.act? k≠some (.mark (.release a))
structure Gh.I2 (g:Gh) (w:World):Prop where
 fz:g.on=true→∃c t,w.heap[g.s]?=some (.cells c t (0,0))
 back:∀x∈g.rs,∃k,w.heap[x.cb]?=some (.chan 0 #[] false k k false)
 shut:∀x∈g.gone,∃k,w.heap[x.ct]?=some (.chan 0 #[] true k k false)
def Gh.fx2 (P:Program) (κ:Kit) (g:Gh):Fx:={g.fx P κ 0 with I:=g.I2,Ex:=g.Ex2 P κ}
structure Gh.All (g:Gh):Prop where
 ok:g.Ok 0
 on:g.on=true
 off:g.off=g.rs.length
 m0:g.m0=none
 ear:g.ear=false
 cnt:g.cnt=0
section
variable {P:Program} {Z:Goal} {h:Nat} {X:Fx} {κ:Kit} {g g':Gh} {B:Nat} {A A':Nat→Prop} {T T0 U U0:Trace} {gs gs':Array Goroutine} {w w':World} {q q':Nat→Nat}
theorem seat_all (ha:g.All) (i:Nat):g.seat κ i=none:=by
 unfold Gh.seat
 by_cases e:i=0
 ·rw[if_pos e];exact ha.m0
 ·rw[if_neg e]
  have:g.sit=[]:=by
   unfold Gh.sit
   rw[ha.off]
   apply List.drop_eq_nil_of_le
   simp
   omega
  rw[this]
  rfl
theorem mem_all (ha:g.All) (i:Nat):¬g.Mem i:=by
 rintro(⟨_,e⟩|⟨x,hx,_⟩)
 ·rw[ha.ear] at e;cases e
 ·have:g.sit=[]:=by
   unfold Gh.sit
   rw[ha.off]
   apply List.drop_eq_nil_of_le
   simp
   omega
  rw[this] at hx
  cases hx
theorem core_all (ha:g.All) (core:Core P (g.fx P κ 0) 0 B A T0 gs w q) (hsz:gs'.size=gs.size) (hidle:∀j y,¬(j=0∨A' j)→gs'[j]?=some y→0<j∧QuitsD P (q' j) (Deaf (T0++U0) j) y) (hab:∀j,gs.size≤j→Deaf (T0++U0) j=0)
 (hp:PastG g.Still g.Mem (g.fx P κ 0).Lo B (Knows (T0++U0) 0) (T0++U0)) (hK:g.K w'):Core P (g.fx P κ 0) 0 B A' (T0++U0) gs' w' q':=
 ⟨fun j y hj hy=>by
  rw[show(g.fx P κ 0).Inb j=none from seat_all ha j]
  exact hidle j y hj hy,fun j s c _ e _=>(by rw[show(g.fx P κ 0).Inb j=none from seat_all ha j] at e;cases e),fun j s e=>(by rw[show(g.fx P κ 0).Inb j=none from seat_all ha j] at e;cases e),fun _ _ hx=>hx.elim,
  fun j _ s _ _ e _=>(by rw[show(g.fx P κ 0).Inb j=none from seat_all ha j] at e;cases e),fun j hj=>hab j (by omega),fun j s e=>(by rw[show(g.fx P κ 0).Inb j=none from seat_all ha j] at e;cases e),fun j hj=>absurd hj (mem_all ha j),
  fun j s _ e=>(by rw[show(g.fx P κ 0).Inb j=none from seat_all ha j] at e;cases e),hp,hK⟩
theorem past_all (ha:g.All) (core:Core P (g.fx P κ 0) 0 B A T0 gs w q) {i:Nat} (hU:∀op∈U0,op.g=i) (hm:∀op∈U0,op.act.touch?=none) (hl:∀op∈U0,op.act.low B):PastG g.Still g.Mem (g.fx P κ 0).Lo B (Knows (T0++U0) 0) (T0++U0):=
 PastG.appMute (K:=Knows T0 0) core.past (fun j (hk:Knows T0 0 j)=>hk.app U0) hU hm (fun hh=>absurd hh (mem_all ha i)) hl
theorem core_one (ha:g.All) (core:Core P (g.fx P κ 0) 0 B A T0 gs w q) {i n':Nat} (hi0:i≠0) (hlt:i<gs.size) (hA:∀j,j≠i→(A' j↔A j)) (hsz:gs'.size=gs.size) (hoth:∀j,j≠0→j≠i→gs'[j]?=gs[j]?) (hU:∀op∈U0,op.g=i)
 (hself:¬A' i→∀y,gs'[i]?=some y→QuitsD P n' (Deaf (T0++U0) i) y) (hp:PastG g.Still g.Mem (g.fx P κ 0).Lo B (Knows (T0++U0) 0) (T0++U0)) (hK:g.K w'):Core P (g.fx P κ 0) 0 B A' (T0++U0) gs' w' (upd q i n'):=by
 refine core_all ha core hsz (fun j y hj hy=> ?_) (fun j hj=> ?_) hp hK
 ·have hj0:j≠0:=fun e=>hj (.inl e)
  by_cases e:j=i
  ·subst e
   rw[upd_same]
   exact⟨by omega,hself (fun z=>hj (.inr z)) y hy⟩
  ·rw[hoth j hj0 e] at hy
   rw[upd_ne q n' e]
   have:=core.idle j y (fun z=>hj (z.imp id (hA j e).2)) hy
   rw[show(g.fx P κ 0).Inb j=none from seat_all ha j] at this
   exact⟨this.1,by rw[Deaf_other T0 (fun z=>e z.symm) U0 hU];exact this.2⟩
 ·rw[Deaf_other T0 (g':=i) (by omega) U0 hU]
  exact core.above j hj
theorem keep_all (ha:g.All) {j:Nat} (hj:5≤j) (y:Value) (hK:g.K w) (hI:g.I2 w):g.K (w.setCell ⟨g.s,j,none⟩ y)∧g.I2 (w.setCell ⟨g.s,j,none⟩ y)∧Seen (hidOf g.hid) w (w.setCell ⟨g.s,j,none⟩ y):=by
 have hs5:=ha.ok.s ha.on
 have hne:∀c,hidOf g.hid c=some 0→(w.setCell ⟨g.s,j,none⟩ y).heap[c]?=w.heap[c]?:=fun c hc=>heap_ne fun e=>by rw[e,show(⟨g.s,j,none⟩:Addr).block=g.s from rfl,hs5] at hc;cases hc
 refine⟨fun x hx=> ?_,⟨fun _=> ?_,fun x hx=> ?_,fun x hx=> ?_⟩,seen_set hs5 hj y⟩
 ·have:g.s≠x.r:=fun e=>by rw[e,(ha.ok.r x hx).1] at hs5;cases hs5
  rw[cell_ne (.inl this),cell_ne (.inl this)];exact hK x hx
 ·obtain⟨c,t,e⟩:=hI.fz ha.on
  exact set_row _ e
 ·rw[hne _ (ha.ok.r x hx).2.2];exact hI.back x hx
 ·rw[hne _ (ha.ok.r x (gone_rs hx)).2.1];exact hI.shut x hx
theorem I2_of (hi:g.I w):g.I2 w:=⟨hi.fz,hi.back,hi.shut⟩
def Step2 (P:Program) (κ:Kit) (g:Gh) (B:Nat) (T T0:Trace) (gs:Array Goroutine) (w:World) (q:Nat→Nat) (sl:Option (Nat×Nat)) (i:Nat):Prop:=
 ∃(gs':Array Goroutine) (w':World) (U U0:Trace) (q':Nat→Nat) (A':Nat→Prop),runT P (crowd gs w sl) i=(.next (crowd gs' w' sl),U)∧Tr (hidOf g.hid) (T++U) (T0++U0)∧gs'.size=gs.size∧Main gs gs' w'∧
  CompA P (g.fx2 P κ) 0 B A' (T0++U0) gs' w' q'∧sumTo gs.size q'<sumTo gs.size q∧Seen (hidOf g.hid) w w'∧((∃i,A' i)∨∀gm,gs[0]?=some gm→gs'[0]?=some (gm.again w'))
theorem tr_sem {H:Nat→Option Nat} (hT:Tr H T T0) {s i:Nat} (hs:H s=some 5) {fn:FuncId} {pos:String}:
 Tr H (T++MemOp.ofEvents i fn pos (semEvents (c6 s))) (T0++(MemOp.ofEvents i fn pos (semEvents (c6 s))).map er):=by
 refine tr_er hT fun k op hk x hx=> ?_
 have e:MemOp.ofEvents i fn pos (semEvents (c6 s))=#[{g:=i,fn:=fn,pos:=pos,act:=.mark .disable},{g:=i,fn:=fn,pos:=pos,act:=.access ⟨.cell (c6 s),false,true⟩},{g:=i,fn:=fn,pos:=pos,act:=.access ⟨.cell (c6 s),true,true⟩},{g:=i,fn:=fn,pos:=pos,act:=.mark .enable}]:=by
  rw[ofEvents_eq]
  simp[semEvents,MemAct.ofEvent]
 have h0:(T++MemOp.ofEvents i fn pos (semEvents (c6 s)))[T.size]?=some {g:=i,fn:=fn,pos:=pos,act:=.mark .disable}:=by rw[e];simp
 have h1:(T++MemOp.ofEvents i fn pos (semEvents (c6 s)))[T.size+1]?=some {g:=i,fn:=fn,pos:=pos,act:=.access ⟨.cell (c6 s),false,true⟩}:=by rw[e];simp
 have d1:(T++MemOp.ofEvents i fn pos (semEvents (c6 s))).deaf i (T.size+1)=Deaf T i+1:=by
  rw[deaf_succ h0,deaf_old (Nat.le_refl _)]
  simp[deafStep,Deaf]
 have d2:(T++MemOp.ofEvents i fn pos (semEvents (c6 s))).deaf i (T.size+2)=Deaf T i+1:=by
  rw[deaf_succ h1,d1]
  rfl
 rw[e] at hk
 match k,hk with
 |0,hk=>
  simp at hk
  subst hk
  simp[MemAct.touch?] at hx
 |1,hk=>
  simp at hk
  subst hk
  simp only[MemAct.touch?,Option.some.injEq] at hx
  subst hx
  exact⟨⟨_,rfl,hs,by simp[c6]⟩,.inr ⟨rfl,by rw[d1];omega⟩⟩
 |2,hk=>
  simp at hk
  subst hk
  simp only[MemAct.touch?,Option.some.injEq] at hx
  subst hx
  exact⟨⟨_,rfl,hs,by simp[c6]⟩,.inr ⟨rfl,by rw[d2];omega⟩⟩
 |3,hk=>
  simp at hk
  subst hk
  simp[MemAct.touch?] at hx
 |k+4,hk=>simp at hk
theorem sem_ops {s i:Nat} {fn:FuncId} {pos:String} (hS:s<B):∀op∈(MemOp.ofEvents i fn pos (semEvents (c6 s))).map er,op.g=i∧op.act.touch?=none∧op.act.low B∧∀a,op.act≠.mark (.release a):=by
 intro op hop
 obtain⟨o,ho,rfl⟩:=mem_er hop
 obtain⟨e,he,rfl⟩:=Go.Conc.mem_ofEvents ho
 simp only[semEvents,List.mem_toArray,List.mem_cons,List.not_mem_nil,or_false] at he
 refine⟨er_g _,er_touch _,er_low _ ?_,er_rel _ fun a=> ?_⟩
 ·rcases he with rfl|rfl|rfl|rfl
  ·trivial
  ·exact hS
  ·exact hS
  ·trivial
 ·rcases he with rfl|rfl|rfl|rfl<;>simp[MemAct.ofEvent]
theorem sem_deaf {s i:Nat} {fn:FuncId} {pos:String} (T:Trace) (j:Nat):Deaf (T++(MemOp.ofEvents i fn pos (semEvents (c6 s))).map er) j=Deaf T j:=by
 rw[deaf_er]
 by_cases e:j=i
 ·subst e
  rw[Deaf_own]
  simp[semEvents,deafBehind]
 ·exact Deaf_other T (fun z=>e z.symm) _ fun op hop=>by obtain⟨e,_,rfl⟩:=Go.Conc.mem_ofEvents hop;rfl
theorem busy_one {l:List Wk} (hn:(l.map (·.i)).Nodup) {x y:Wk} (hx:x∈l) (hy:y∈l) (hAx:A x.i) (hAy:A y.i) (h1:busy A l=1):y.i=x.i:=by
 refine Classical.byContradiction fun hne=> ?_
 have h2:=busy_less (A':=fun j=>A j∧j≠x.i) hn hx hAx (by simp) (fun j hj=>by simp[hj])
 have h3:=busy_pos (A:=fun j=>A j∧j≠x.i) hy ⟨hAy,hne⟩
 omega
theorem late_keep (hB:∀x∈g.gone,A x.i→gs'[x.i]?=gs[x.i]?) (hq:∀x∈g.gone,A x.i→q' x.i=q x.i) {i:Nat} (hi:∀x∈g.gone,A x.i→x.i≠i) (hU:∀op∈U,op.g=i) (hw:∀op∈U,∀y,op.act.touch?=some y→g.Still y.loc→y.write=false)
 (h5:w'.cell? (c5 g.s)=w.cell? (c5 g.s)) (h6:w'.cell? (c6 g.s)=w.cell? (c6 g.s)) (hl:Late P κ g B A T gs w q):Late P κ g B A (T++U) gs' w' q':=by
 cases hl with
 |run h1 h2 h3 h4=>
  exact .run h1 (by rw[h5];exact h2) (by rw[h6];exact h3) fun x hx ha=>by
   obtain⟨gr,k1,k2⟩:=h4 x hx ha
   exact⟨gr,by rw[hB x hx ha];exact k1,by rw[hq x hx ha];exact k2.app (hi x hx ha) hU hw⟩
 |tail h1 h2 h3 h4 h5' h6' h7 h8=>
  rename_i x st gr
  have hAx:A x.i:=(h2 x.i).2 rfl
  have hne:=hi x h1 hAx
  exact .tail h1 h2 (by rw[hB x h1 hAx];exact h3) (by rw[hq x h1 hAx];exact h4) (by rw[Deaf_other T (fun e=>hne e.symm) U hU];exact h5') (h6'.app fun op hop eg=>absurd ((hU op hop).symm.trans eg) (Ne.symm hne)) (by rw[h5];exact h7) (by rw[h6];exact h8)
 |done h1 h2 h3=>exact .done h1 (by rw[h5];exact h2) (by rw[h6];exact h3)
theorem ex2_step (hκ:κ.Ok P) (ha:g.All) (C:CompA P (g.fx2 P κ) 0 B A T0 gs w q) {i:Nat} {gi:Goroutine} (hAi:A i) (hi:gs[i]?=some gi) (hT:Tr (hidOf g.hid) T T0) (hoff:∀gm c,gs[0]?=some gm→offersAt gm c true=[]) (sl:Option (Nat×Nat)):Step2 P κ g B T T0 gs w q sl i:=by
 have E:g.Ex2 P κ B A T0 gs w q:=C.ex
 have hg:=ha.ok
 have core:Core P (g.fx P κ 0) 0 B A T0 gs w q:=C.core
 have hI:g.I2 w:=C.inv
 have hK:g.K w:=core.keep
 obtain⟨x,hx,rfl⟩:=E.sub i hAi
 have hx0:x.i≠0:=hg.pos x (gone_rs hx)
 have hlt:x.i<gs.size:=(Array.getElem?_eq_some_iff.1 hi).1
 have hs5:hidOf g.hid g.s=some 5:=hg.s ha.on
 have hS:=E.lowS ha.on
 obtain⟨cc,tt,hrow⟩:=hI.fz ha.on
 have hxu:∀y∈g.gone,y.i=x.i→y=x:=fun y hy e=>map_inj hg.inj (gone_rs hy) (gone_rs hx) e
 have hz0:∀{U0:Trace},(∀op∈U0,op.g=x.i)→Deaf (T0++U0) 0=Deaf T0 0:=fun hU=>Deaf_other T0 hx0 _ hU
 have hrun':∀{A':Nat→Prop} {gs':Array Goroutine},(∀j,j≠x.i→(A' j↔A j))→(∀j,j≠0→j≠x.i→gs'[j]?=gs[j]?)→(∀gr,A' x.i→gs'[x.i]?=some gr→gr.status=.running)→¬A' 0∧∀j gj,A' j→gs'[j]?=some gj→gj.status=.running:=by
  intro A' gs' hA hoth hself
  have h0:¬A' 0:=fun z=>C.noh ((hA 0 (Ne.symm hx0)).1 z)
  refine⟨h0,fun j gj hj hgj=> ?_⟩
  by_cases e:j=x.i
  ·subst e;exact hself gj hj hgj
  ·rw[hoth j (fun e0=>h0 (e0▸hj)) e] at hgj;exact C.run j gj ((hA j e).1 hj) hgj
 have go:∀(g':Goroutine) (es:Array Event) (w':World) (n':Nat) (A':Nat→Prop) (U0:Trace),stepG P false gi w=.go g' w' es→g.K w'→g.I2 w'→Seen (hidOf g.hid) w w'→Tr (hidOf g.hid) (T++MemOp.ofEvents x.i gi.frame.fn gi.frame.place es) (T0++U0)→
  (∀op∈U0,op.g=x.i∧op.act.touch?=none∧op.act.low B∧∀a,op.act≠.mark (.release a))→n'<q x.i→(∀j,j≠x.i→(A' j↔A j))→(A' x.i→g'.status=.running)→(¬A' x.i→QuitsD P n' (Deaf (T0++U0) x.i) g'∧Rel g.s T0 x.i)→
  (∀gs',gs'[x.i]?=some g'→(∀j,j≠0→j≠x.i→gs'[j]?=gs[j]?)→Late P κ g B A' (T0++U0) gs' w' (upd q x.i n'))→((∃i,A' i)∨(mayWake P gi=true∧g'.status=.running))→Step2 P κ g B T T0 gs w q sl x.i:=by
  intro g' es w' n' A' U0 hst hK' hI' hseen hTr hU0 hn' hA hrn hq hlate hwk
  obtain⟨gs',hrt,hsz,hoth,hmn,hself,hwake⟩:=other_go core C.run hi hx0 hst hK' (fun j s c e _=>by rw[seat_all ha j] at e;cases e) sl
  have hp:=past_all ha core (fun op hop=>(hU0 op hop).1) (fun op hop=>(hU0 op hop).2.1) (fun op hop=>(hU0 op hop).2.2.1)
  obtain⟨r1,r2⟩:=hrun' hA hoth (fun gr hax e=>by rw[hself] at e;obtain rfl:=Option.some.inj e;exact hrn hax)
  refine⟨gs',w',_,U0,upd q x.i n',A',hrt,hTr,hsz,hmn,⟨?_,⟨fun j hj=> ?_,hlate gs' hself hoth,fun y hy hay=> ?_,E.low,E.lowS,fun e=> ?_,norel_app E.norel fun op hop=>(hU0 op hop).2.2.2⟩,r1,r2,hI'⟩,sum_lt hlt hn',hseen,hwk.imp id fun hw gm hgm=>hwake hw.1 hw.2 gm hgm⟩
  ·exact core_one ha core hx0 hlt hA hsz hoth (fun op hop=>(hU0 op hop).1) (fun hax y e=>by rw[hself] at e;obtain rfl:=Option.some.inj e;exact(hq hax).1) hp hK'
  ·by_cases e:j=x.i
   ·exact⟨x,hx,e.symm⟩
   ·exact E.sub j ((hA j e).1 hj)
  ·by_cases e:y.i=x.i
   ·obtain rfl:=hxu y hy e
    exact(hq hay).2.app fun op hop _=>(hU0 op hop).2.1
   ·exact(E.rest y hy fun z=>hay ((hA _ e).2 z)).app fun op hop _=>(hU0 op hop).2.1
  ·rw[hz0 fun op hop=>(hU0 op hop).1];exact E.deaf0 e
 have her:∀(es:Array Event),Wgs g.s es→∀op∈erased x.i (MemOp.ofEvents x.i gi.frame.fn gi.frame.place es),op.g=x.i∧op.act.touch?=none∧op.act.low B∧∀a,op.act≠.mark (.release a):=fun es _ op hop=>by
  obtain⟨k1,k2⟩:=erased_ops op hop
  exact⟨k1,by rw[k2];rfl,by rw[k2];trivial,fun a=>by rw[k2];simp⟩
 cases E.late with
 |run hb h5 h6 hdo=>
  obtain⟨gr,hgr,hd⟩:=hdo x hx hAi
  rw[hi] at hgr
  obtain rfl:=Option.some.inj hgr
  rcases doer_go hκ hg core C.run ha.on ⟨_,h5⟩ hS hx (E.low x hx) (hI.shut x hx) hi hd hoff sl with⟨gs',U,n',gr',k1,k2,k3,k4,k5,k6,k7,k8,k9,k10,k11,k12⟩|⟨m,hm,hdf,hrel,hadd⟩
  ·obtain⟨r1,r2⟩:=hrun' (A':=A) (fun _ _=> .rfl) k3 (fun gr _ e=>by rw[k5] at e;obtain rfl:=Option.some.inj e;exact k6)
   refine⟨gs',w,U,U,upd q x.i n',A,k1,hT.plain fun op hop y hy=>hg.wg (k8 op hop y hy).1,k2,k4,⟨?_,⟨E.sub,.run hb h5 h6 fun y hy hay=> ?_,fun y hy hay=> ?_,E.low,E.lowS,fun e=> ?_,norel_app E.norel k9⟩,r1,r2,hI⟩,sum_lt hlt k11,.refl _,.inl ⟨_,hAi⟩⟩
   ·exact core_one ha core hx0 hlt (fun _ _=> .rfl) k2 k3 k7 (fun hh=>absurd hAi hh) k10 hK
   ·by_cases e:y.i=x.i
    ·obtain rfl:=hxu y hy e
     exact⟨gr',k5,by rw[upd_same];exact k12⟩
    ·have hy0:y.i≠0:=hg.pos y (gone_rs hy)
     obtain⟨gy,j1,j2⟩:=hdo y hy hay
     exact⟨gy,by rw[k3 _ hy0 e];exact j1,by rw[upd_ne q n' e];exact j2.app e k7 fun op hop z hz _=>(k8 op hop z hz).2⟩
   ·have e:y.i≠x.i:=fun e=>hay (e▸hAi)
    exact(E.rest y hy hay).app fun op hop eg=>absurd ((k7 op hop).symm.trans eg) (Ne.symm e)
   ·rw[hz0 k7];exact E.deaf0 e
  ·obtain⟨k,hk⟩:∃k,busy A g.gone=k+1:=⟨busy A g.gone-1,by omega⟩
   have hk':k<1000:=by have:=busy_le A g.gone;have:=gone_len (g:=g);have:=hg.few;omega
   rw[hk] at h5
   obtain⟨g',es,hes,hst,hq1,hq2⟩:=hadd w k 1 (by omega) hk' (unfrozen hrow) (by rw[h5];simp)
   obtain⟨w1,w2,w3⟩:=keep_all ha (Nat.le_refl 5) (.int .u64 ((k:Int)*KK+((1:Nat):Int))) hK hI
   have hD1:Deaf (T0++erased x.i (MemOp.ofEvents x.i gi.frame.fn gi.frame.place es)) x.i=1:=by rw[deaf_erased];exact hdf
   have e5:(w.setCell (c5 g.s) (.int .u64 ((k:Int)*KK+((1:Nat):Int)))).cell? (c5 g.s)=some (.int .u64 ((k:Int)*KK+((1:Nat):Int))):=cell_set (r:=g.s) (j:=5) h5 _
   have e6:(w.setCell (c5 g.s) (.int .u64 ((k:Int)*KK+((1:Nat):Int)))).cell? (c6 g.s)=some (.int .u32 0):=by
    rw[show c5 g.s=⟨g.s,5,none⟩ from rfl,show c6 g.s=⟨g.s,6,none⟩ from rfl,cell_ne (.inr (by omega))];exact h6
   by_cases hk0:k=0
   ·subst hk0
    have htl:=hq2 ⟨rfl,rfl⟩
    refine go g' es _ m A _ hst w1 w2 w3 (tr_erase hT hs5 (by rw[hdf];omega) hes) (her es hes) (by omega) (fun _ _=> .rfl) (fun _=>htl.running) (fun hh=>absurd hAi hh) (fun gs' hself hoth=> ?_) (.inl ⟨_,hAi⟩)
    refine .tail hx (fun j=>⟨fun hj=> ?_,fun e=>e▸hAi⟩) hself (by rw[upd_same];exact htl) hD1 (hrel.app fun op hop _=>(her es hes op hop).2.1) (by rw[e5];simp) e6
    obtain⟨y,hy,rfl⟩:=E.sub j hj
    exact busy_one (gone_nodup hg) hx hy hAi hj hk
   ·generalize hA':(fun j=>A j∧j≠x.i)=A'
    have hAx:¬A' x.i:=by subst hA';simp
    have hAo:∀j,j≠x.i→(A' j↔A j):=by subst hA';intro j hj;simp[hj]
    have hbl:=busy_less (gone_nodup hg) hx hAi hAx hAo
    have hbk:busy A' g.gone=k:=by omega
    obtain⟨y,hy,hay⟩:∃y∈g.gone,A' y.i:=by
     have hpos:0<busy A' g.gone:=by omega
     unfold busy at hpos
     obtain⟨y,hy,hd⟩:=List.countP_pos_iff.1 hpos
     exact⟨y,hy,by simpa using hd⟩
    refine go g' es _ m A' _ hst w1 w2 w3 (tr_erase hT hs5 (by rw[hdf];omega) hes) (her es hes) (by omega) hAo (fun z=>absurd z hAx) (fun _=>⟨by rw[hD1];exact hq1 (.inl (by omega)),hrel⟩) (fun gs' hself hoth=> ?_) (.inl ⟨_,hay⟩)
    refine .run (by omega) (by rw[e5,hbk];simp) e6 fun z hz haz=> ?_
    have e:z.i≠x.i:=fun e=>hAx (e▸haz)
    have hz0':z.i≠0:=hg.pos z (gone_rs hz)
    obtain⟨gz,j1,j2⟩:=hdo z hz ((hAo _ e).1 haz)
    exact⟨gz,by rw[hoth _ hz0' e];exact j1,by rw[upd_ne q m e];exact j2.app e (fun op hop=>(her es hes op hop).1) fun op hop t ht=>by rw[(her es hes op hop).2.1] at ht;cases ht⟩
 |tail hy hAy hgy htl hdf hrel h5 h6=>
  rename_i y st gy
  obtain rfl:=hxu y hy ((hAy x.i).1 hAi).symm
  rw[hi] at hgy
  obtain rfl:=Option.some.inj hgy
  generalize hqx:q y.i=nq at htl
  cases htl with
  |calm hr hst htl'=>
   rename_i n g'
   refine go g' #[] w n A #[] (hst w) hK hI (.refl _) (by simpa[MemOp.ofEvents] using hT) (by simp) (by omega) (fun _ _=> .rfl) (fun _=>htl'.running) (fun hh=>absurd hAi hh) (fun gs' hself hoth=> ?_) (.inl ⟨_,hAi⟩)
   rw[Array.append_empty]
   exact .tail hy hAy hself (by rw[upd_same];exact htl') hdf hrel h5 h6
  |load hr hst htl'=>
   rename_i n g'
   obtain⟨es,hes,hst⟩:=hst w (by rw[h5];simp)
   refine go g' es w n A _ hst hK hI (.refl _) (tr_erase hT hs5 (by rw[hdf];omega) hes) (her es hes) (by omega) (fun _ _=> .rfl) (fun _=>htl'.running) (fun hh=>absurd hAi hh) (fun gs' hself hoth=> ?_) (.inl ⟨_,hAi⟩)
   exact .tail hy hAy hself (by rw[upd_same];exact htl') (by rw[deaf_erased];exact hdf) (hrel.app fun op hop _=>(her es hes op hop).2.1) (by rw[h5];simp) h6
  |store hr hst htl'=>
   rename_i n g'
   obtain⟨es,hes,hst⟩:=hst w (by rw[h5];simp) (unfrozen hrow)
   obtain⟨w1,w2,w3⟩:=keep_all ha (Nat.le_refl 5) (.int .u64 0) hK hI
   refine go g' es _ n A _ hst w1 w2 w3 (tr_erase hT hs5 (by rw[hdf];omega) hes) (her es hes) (by omega) (fun _ _=> .rfl) (fun _=>htl'.running) (fun hh=>absurd hAi hh) (fun gs' hself hoth=> ?_) (.inl ⟨_,hAi⟩)
   refine .tail hy hAy hself (by rw[upd_same];exact htl') (by rw[deaf_erased];exact hdf) (hrel.app fun op hop _=>(her es hes op hop).2.1) (by rw[if_pos rfl];exact cell_set (r:=g.s) (j:=5) h5 _) ?_
   rw[show c5 g.s=⟨g.s,5,none⟩ from rfl,show c6 g.s=⟨g.s,6,none⟩ from rfl,cell_ne (.inr (by omega))];exact h6
  |wake hr hmw hr' hst hq=>
   rename_i n g'
   have hst:=hst w h6 (unfrozen hrow)
   obtain⟨w1,w2,w3⟩:=keep_all ha (show 5≤6 by omega) (.int .u32 1) hK hI
   have hsem:=sem_ops (i:=y.i) (fn:=gi.frame.fn) (pos:=gi.frame.place) hS
   refine go g' _ _ n (fun _=>False) _ hst w1 w2 w3 (tr_sem hT hs5) hsem (by omega) (fun j hj=>⟨fun z=>z.elim,fun z=>absurd ((hAy j).1 z) hj⟩) (fun z=>z.elim) (fun _=>⟨by rw[sem_deaf,hdf];exact hq,hrel⟩) (fun gs' hself hoth=> ?_) (.inr ⟨hmw,hr'⟩)
   refine .done (fun _ z=>z) ?_ (cell_set (r:=g.s) (j:=6) h6 _)
   rw[show c5 g.s=⟨g.s,5,none⟩ from rfl,show c6 g.s=⟨g.s,6,none⟩ from rfl,cell_ne (.inr (by omega))]
   rw[if_pos rfl] at h5
   exact h5
 |done h1 _ _=>exact absurd hAi (h1 _)
theorem Late.mono {B':Nat} (hB:B≤B') (hl:Late P κ g B A T gs w q):Late P κ g B' A T gs w q:=by
 cases hl with
 |run h1 h2 h3 h4=>exact .run h1 h2 h3 fun x hx ha=>let⟨gr,k1,k2⟩:=h4 x hx ha;⟨gr,k1,k2.mono hB⟩
 |tail h1 h2 h3 h4 h5 h6 h7 h8=>exact .tail h1 h2 h3 h4 h5 h6 h7 h8
 |done h1 h2 h3=>exact .done h1 h2 h3
theorem Late.hs (ha:g.All) (hs:Hs (hidOf g.hid) w w') (hl:Late P κ g B A T gs w q):Late P κ g B A T gs w' q:=by
 have h5:∀{j x},5≤j→w.cell? ⟨g.s,j,none⟩=some x→w'.cell? ⟨g.s,j,none⟩=some x:=fun hj hc=>hs_cell hs (ha.ok.s ha.on) hj hc
 cases hl with
 |run h1 h2 h3 h4=>exact .run h1 (h5 (Nat.le_refl 5) h2) (h5 (by omega) h3) h4
 |tail h1 h2 h3 h4 h5' h6 h7 h8=>exact .tail h1 h2 h3 h4 h5' h6 (h5 (Nat.le_refl 5) h7) (h5 (by omega) h8)
 |done h1 h2 h3=>exact .done h1 (h5 (Nat.le_refl 5) h2) (h5 (by omega) h3)
theorem Gh.All.fx2 (hκ:κ.Ok P) (ha:g.All):(g.fx2 P κ).Ok P 0 where
 hides:=ha.ok.hides
 keepI:=fun w w' hs hi=>⟨fun e=>let⟨c,t,h1⟩:=hi.fz e;hs_row hs (ha.ok.s e) h1,fun x hx=>let⟨k,e⟩:=hi.back x hx;⟨k,hs_chan hs (ha.ok.r x hx).2.2 e⟩,fun x hx=>let⟨k,e⟩:=hi.shut x hx;⟨k,hs_chan hs (ha.ok.r x (gone_rs hx)).2.1 e⟩⟩
 wg:=fun _ hl=>ha.ok.wg hl
 exMono:=fun _ _ _ _ _ _ _ hB (E:g.Ex2 P κ _ _ _ _ _ _)=>⟨E.sub,E.late.mono hB,E.rest,fun x hx=>Nat.lt_of_lt_of_le (E.low x hx) hB,fun e=>Nat.lt_of_lt_of_le (E.lowS e) hB,E.deaf0,E.norel⟩
 exHs:=fun _ _ _ _ _ _ _ hs (E:g.Ex2 P κ _ _ _ _ _ _)=>⟨E.sub,E.late.hs ha hs,E.rest,E.low,E.lowS,E.deaf0,E.norel⟩
 exBy:=fun B A T gs w q gs' q' i U (E:g.Ex2 P κ B A T gs w q) hi hoth hq hU hm hw hd hr=>by
  have hne:∀x∈g.gone,A x.i→x.i≠i:=fun x _ hax e=>hi (e▸hax)
  refine⟨E.sub,late_keep (fun x _ hax=>hoth _ hax) (fun x hx hax=>hq _ (hne x hx hax)) hne hU hw rfl rfl E.late,fun x hx hax=>(E.rest x hx hax).app fun op hop eg=> ?_,E.low,E.lowS,fun e=> ?_,norel_app E.norel hr⟩
  ·have e:i=x.i:=(hU op hop).symm.trans eg
   rcases hm with h1|h1|h1
   ·exact h1 op hop
   ·exact absurd (by rw[←e,h1]) (ha.ok.pos x (gone_rs hx))
   ·exact absurd (seat_all ha i) h1
  ·by_cases e0:i=0
   ·rw[hd e0];exact E.deaf0 e
   ·rw[Deaf_other T (g':=i) e0 U hU];exact E.deaf0 e
 exStep:=fun B A T T0 gs w q sl i gi C hAi hi hT hh=>by
  have hlt0:∃gm,gs[0]?=some gm:=by
   have:=(Array.getElem?_eq_some_iff.1 hi).1
   exact⟨gs[0]'(by omega),Array.getElem?_eq_getElem (by omega)⟩
  obtain⟨gm,hgm⟩:=hlt0
  obtain⟨gs',w',U,U0,q',A',k1,k2,k3,k4,k5,k6,k7,_⟩:=ex2_step hκ ha C hAi hi hT (fun gm' c e=>offersAt_of_not_blocked (by rw[hh gm' e];simp) _ _) sl
  exact⟨gs',w',U,U0,q',A',k1,k2,k3,k4.run hgm (hh gm hgm),k5,k6,k7⟩
theorem co_cas (hZ:Z.Ok P) (hκ:κ.Ok P) (ha:g.All) {a:Goroutine} {v:World} (hrun:a.status=.running)
 (hst:∀(w:World) (k:Nat),k≤g.lim→w.cell? (c5 g.s)=some (.int .u64 ((k:Int)*KK))→w.frozen? (c5 g.s)=false→
  (∃a' es,1≤k∧stepG P true a w=.go a' (w.setCell (c5 g.s) (.int .u64 ((k:Int)*KK+1))) es∧Wgs g.s es∧Co P Z 0 (g.fx2 P κ) a' v)∨
  ∃a' es l,k≤l∧stepG P true a w=.go a' w es∧Wgs g.s es∧Co P Z 0 ((g.set 0 l false).fx P κ 0) a' v):Co P Z 0 (g.fx P κ 0) a v:=by
 have hg:=ha.ok
 refine co_turn hZ (hg.fx hκ) hrun fun T T0 gs w sl q hT hi hga=> ?_
 obtain⟨A,C⟩:=hi.comp
 have E:g.Ex P κ w.heap.size A T0 gs w q:=C.ex
 have hI:g.I w:=C.inv
 have hK:g.K w:=C.core.keep
 obtain⟨cc,tt,hrow⟩:=hI.fz ha.on
 have h5:=E.st ha.on
 rw[ha.cnt] at h5
 have h6:=hI.sm ha.on
 simp only[Nat.zero_add] at h5
 have hW:∀es,Wgs g.s es→Grp g.s es:=fun es hes e he=>by
  obtain⟨j,wr,hj,e1⟩:=hes e he
  exact⟨j,hj,.inl ⟨wr,e1⟩⟩
 rcases hst w (busy A g.gone) E.lim h5 (unfrozen hrow) with⟨a',es,hk1,hstp,hes,hc⟩|⟨a',es,l,hl,hstp,hes,hc⟩
 ·obtain⟨w1,w2,w3⟩:=keep_all ha (Nat.le_refl 5) (.int .u64 (((busy A g.gone:Nat):Int)*KK+1)) hK (I2_of hI)
  have hlt:0<gs.size:=(Array.getElem?_eq_some_iff.1 hga).1
  have hoth:=others_stand (g:=a) (g':=a') C w1 (fun j s c e _=>by rw[show(g.fx P κ 0).Inb j=none from seat_all ha j] at e;cases e) (fun gh e=>by rw[hga] at e;obtain rfl:=Option.some.inj e;exact hrun) (i:=0)
  have hrt:=runT_crowd_go (P:=P) (sl:=sl) (i:=0) hga (by simpa using hstp)
  have hout:((gs.map (woken P a a' (w.setCell ⟨g.s,5,none⟩ (.int .u64 (((busy A g.gone:Nat):Int)*KK+1))))).setIfInBounds 0 a').size=gs.size:=by simp
  have hself:((gs.map (woken P a a' (w.setCell ⟨g.s,5,none⟩ (.int .u64 (((busy A g.gone:Nat):Int)*KK+1))))).setIfInBounds 0 a')[0]?=some a':=Array.getElem?_setIfInBounds_self_of_lt (by simpa using hlt)
  rw[show c5 g.s=⟨g.s,5,none⟩ from rfl] at hrt
  generalize hgs:(gs.map (woken P a a' (w.setCell ⟨g.s,5,none⟩ (.int .u64 (((busy A g.gone:Nat):Int)*KK+1))))).setIfInBounds 0 a'=gs' at hoth hout hrt hself
  have hops:=fun op hop=>erased_ops (i:=0) (U:=MemOp.ofEvents 0 a.frame.fn a.frame.place es) op hop
  have hcore:Core P (g.fx2 P κ) 0 w.heap.size A (T0++erased 0 (MemOp.ofEvents 0 a.frame.fn a.frame.place es)) gs' (w.setCell ⟨g.s,5,none⟩ (.int .u64 (((busy A g.gone:Nat):Int)*KK+1))) q:=
   core_main C.core (X':=g.fx2 P κ) rfl rfl rfl rfl hlt hout hoth w1 (fun j s c e _=>by rw[show(g.fx P κ 0).Inb j=none from seat_all ha j] at e;cases e) (fun op hop=>(hops op hop).1) (fun op hop=>by rw[(hops op hop).2];rfl) (fun op hop=>by rw[(hops op hop).2];trivial) (fun _ _=> .rfl) (fun hM=>absurd hM (mem_all ha 0))
    (fun s e=>by rw[show(g.fx P κ 0).Inb 0=none from seat_all (κ:=κ) ha 0] at e;cases e) fun l hl=>still_mem hl
  have hEx:g.Ex2 P κ w.heap.size A (T0++erased 0 (MemOp.ofEvents 0 a.frame.fn a.frame.place es)) gs' (w.setCell ⟨g.s,5,none⟩ (.int .u64 (((busy A g.gone:Nat):Int)*KK+1))) q:=by
   refine⟨E.sub, ?_,fun x hx hax=>(E.rest x hx hax).app fun op hop _=>by rw[(hops op hop).2];rfl,E.low,E.lowS,fun e=>by rw[deaf_erased];exact E.deaf0 e,norel_app E.norel fun op hop b=>by rw[(hops op hop).2];simp⟩
   refine .run hk1 (cell_set (r:=g.s) (j:=5) h5 _) (by rw[show c6 g.s=⟨g.s,6,none⟩ from rfl,cell_ne (.inr (by omega))];exact h6) fun x hx hax=> ?_
   have hx0:x.i≠0:=hg.pos x (gone_rs hx)
   obtain⟨gr,k1,k2⟩:=E.each x hx hax
   exact⟨gr,by rw[hoth _ hx0];exact k1,k2.app hx0 (fun op hop=>(hops op hop).1) fun op hop y hy=>by rw[(hops op hop).2] at hy;cases hy⟩
  have hrn:∀j gj,A j→gs'[j]?=some gj→gj.status=.running:=fun j gj hj hgj=>by
   have hj0:j≠0:=fun e0=>C.noh (e0▸hj)
   rw[hoth j hj0] at hgj
   exact C.run j gj hj hgj
  exact⟨gs',_,sl,_,_,q,g.fx2 P κ,0,a',v,hrt,tr_group hT (hg.s ha.on) (hW es hes),⟨⟨A,by rw[w3.size];exact⟨hcore,hEx,C.noh,hrn,w2⟩⟩,hout.trans hi.n,w3.kinds v hi.vis,hi.nv,hi.size,hi.old.seen w3⟩,hself,hc⟩
 ·have hdeaf:Deaf T0 0=if false then 0 else 1:=by simpa using E.deaf0 ha.ear
  obtain⟨gs',k1,k2,k3,k4,k5⟩:=comp_main (U0:=erased 0 (MemOp.ofEvents 0 a.frame.fn a.frame.place es)) (c:=0) (l:=l) (e:=false) hg ha.m0 C hga hrun hstp (.inl rfl) (fun op hop=>(erased_ops op hop).1) (fun op hop=>by rw[(erased_ops op hop).2];rfl)
   (fun op hop=>by rw[(erased_ops op hop).2];trivial) (fun op hop ad=>by rw[(erased_ops op hop).2];simp) (by rw[deaf_erased];exact hdeaf) (fun _=>by simpa using h5) hl sl
  exact⟨gs',w,sl,_,_,q,(g.set 0 l false).fx P κ 0,0,a',v,k1,tr_group hT (hg.s ha.on) (hW es hes),⟨⟨A,k4⟩,k3.trans hi.n,hi.vis,hi.nv,hi.size,hi.old⟩,k2,hc⟩
end
end Co
end Go.Proofs.Ytlngbdggehghgaa

namespace Go.Proofs.Ytlngbdggehghgaa
set_option linter.unusedSimpArgs false
set_option linter.unusedVariables false
namespace Co
open Go.Conc
open Go.ConcN (sumTo upd sumTo_upd upd_ne upd_same)
section
variable {P:Program} {Z:Goal} {h:Nat} {X:Fx} {κ:Kit} {g g':Gh} {B:Nat} {A A':Nat→Prop} {T T0 U U0:Trace} {gs gs':Array Goroutine} {w w':World} {q q':Nat→Nat}
theorem main2 (hκ:κ.Ok P) (ha:g.All) (C:CompA P (g.fx2 P κ) 0 B A T0 gs w q) (hlt:0<gs.size) (hsz:gs'.size=gs.size) (hoth:∀j,j≠0→gs'[j]?=gs[j]?) (hU:∀op∈U0,op.g=0∧op.act.touch?=none∧op.act.low B∧∀a,op.act≠.mark (.release a)) (hd:Deaf (T0++U0) 0=Deaf T0 0):
 CompA P (g.fx2 P κ) 0 B A (T0++U0) gs' w q:=by
 refine⟨core_main (X':=g.fx2 P κ) (X:=g.fx P κ 0) C.core rfl rfl rfl rfl hlt hsz hoth C.core.keep (fun _ _ _ _ _=>rfl) (fun op hop=>(hU op hop).1) (fun op hop=>(hU op hop).2.1) (fun op hop=>(hU op hop).2.2.1) (fun _ _=> .rfl) (fun hM=>absurd hM (mem_all ha 0))
  (fun s e=>by rw[show(g.fx P κ 0).Inb 0=none from seat_all (κ:=κ) ha 0] at e;cases e) fun l hl=>still_mem hl,
  (ha.fx2 hκ).exBy B A T0 gs w q gs' q 0 U0 C.ex C.noh (fun x hx=>hoth x fun e=>C.noh (e▸hx)) (fun _ _=>rfl) (fun op hop=>(hU op hop).1) (.inl fun op hop=>(hU op hop).2.1) (fun op hop y hy=>by rw[(hU op hop).2.1] at hy;cases hy) (fun _=>hd) (fun op hop=>(hU op hop).2.2.2),C.noh,fun j gj hj hgj=> ?_,C.inv⟩
 rw[hoth j fun e=>C.noh (e▸hj)] at hgj
 exact C.run j gj hj hgj
theorem all_stand (ha:g.All) (core:Core P (g.fx P κ 0) 0 B A T0 gs w q) (run:∀i gi,A i→gs[i]?=some gi→gi.status=.running) {a a':Goroutine}:∀j,j≠0→((gs.map (woken P a a' w')).setIfInBounds 0 a')[j]?=gs[j]?:=by
 intro j hj
 rw[Array.getElem?_setIfInBounds_ne (fun e=>hj e.symm),Array.getElem?_map]
 cases e:gs[j]? with
 |none=>rfl
 |some y=>
  have:woken P a a' w' y=y:=woken_of_again (by
   by_cases ea:A j
   ·exact again_of_running (.inl (run j y ea e)) _
   ·have:=core.idle j y (fun z=>z.elim hj ea) e
    rw[show(g.fx P κ 0).Inb j=none from seat_all ha j] at this
    exact again_of_running this.2.status _)
  simp[this]
theorem co_say (hZ:Z.Ok P) (hκ:κ.Ok P) (ha:g.All) {a a':Goroutine} {v:World} (hrun:a.status=.running) (hst:∀w,∃es,Grp g.s es∧stepG P true a w=.go a' w es) (hc:Co P Z 0 (g.fx2 P κ) a' v):Co P Z 0 (g.fx2 P κ) a v:=by
 refine co_turn hZ (ha.fx2 hκ) hrun fun T T0 gs w sl q hT hi hga=> ?_
 obtain⟨A,C⟩:=hi.comp
 obtain⟨es,hes,hstp⟩:=hst w
 have hlt:0<gs.size:=(Array.getElem?_eq_some_iff.1 hga).1
 have hrt:=runT_crowd_go (P:=P) (sl:=sl) (i:=0) hga (by simpa using hstp)
 have hops:=fun op hop=>erased_ops (i:=0) (U:=MemOp.ofEvents 0 a.frame.fn a.frame.place es) op hop
 refine⟨_,w,sl,_,_,q,g.fx2 P κ,0,a',v,hrt,tr_group hT (ha.ok.s ha.on) hes,⟨⟨A,main2 hκ ha C hlt (by simp) (all_stand ha C.core C.run) (fun op hop=>⟨(hops op hop).1,by rw[(hops op hop).2];rfl,by rw[(hops op hop).2];trivial,fun b=>by rw[(hops op hop).2];simp⟩) (deaf_erased _)⟩,by simp[hi.n],hi.vis,hi.nv,hi.size,hi.old⟩,Array.getElem?_setIfInBounds_self_of_lt (by simpa using hlt),hc⟩
theorem offers_none {gm:Goroutine} (ho:gm.offers=none) (c:Nat) (s:Bool):offersAt gm c s=[]:=by
 unfold offersAt
 rw[ho]
 cases gm.status<;>rfl
theorem late_rec (ha:g.All) (E:g.Ex2 P κ B A T0 gs w q) {i:Nat} (hi:A i):∃gi,gs[i]?=some gi:=by
 obtain⟨x,hx,rfl⟩:=E.sub i hi
 cases E.late with
 |run _ _ _ h4=>obtain⟨gr,k,_⟩:=h4 x hx hi;exact⟨gr,k⟩
 |tail h1 h2 h3 _ _ _ _ _=>rename_i y st gr _ _ _ _ _;rw[(h2 x.i).1 hi];exact⟨gr,h3⟩
 |done h1 _ _=>exact absurd hi (h1 _)
def blk (a:Goroutine):Goroutine:={a with status:=.blocked}
theorem blk_again {a:Goroutine} (hrun:a.status=.running) (ho:a.offers=none) (w:World):(blk a).again w=a:=by
 unfold blk Goroutine.again
 obtain⟨fr,cs,st,of,dy⟩:=a
 simp only at hrun ho
 subst hrun ho
 rfl
theorem leave2 (hκ:κ.Ok P) (ha:g.All) (C:CompA P (g.fx2 P κ) 0 B A T0 gs w q) {i:Nat} {gi:Goroutine} (hi0:i≠0) (hAi:¬A i) (hi:gs[i]?=some gi) (hrun:gi.status=.running) (hT:Tr (hidOf g.hid) T T0) (sl:Option (Nat×Nat)):
 ∃(gs':Array Goroutine) (U:Trace) (q':Nat→Nat),runT P (crowd gs w sl) i=(.next (crowd gs' w sl),U)∧Tr (hidOf g.hid) (T++U) (T0++U)∧gs'.size=gs.size∧Main gs gs' w∧CompA P (g.fx2 P κ) 0 B A (T0++U) gs' w q'∧sumTo gs.size q'<sumTo gs.size q:=by
 have hlt:i<gs.size:=(Array.getElem?_eq_some_iff.1 hi).1
 have hid:=C.core.idle i gi (fun z=>z.elim hi0 hAi) hi
 rw[show(g.fx2 P κ).Inb i=none from seat_all ha i] at hid
 obtain⟨hpos,hq⟩:=hid
 have core:Core P (g.fx P κ 0) 0 B A T0 gs w q:=C.core
 cases hqi:q i with
 |zero=>rw[hqi] at hq;rw[hq.1] at hrun;cases hrun
 |succ k=>
  rw[hqi] at hq
  rcases hq with⟨hf,_⟩|⟨_,g',es,hm,hstp,hq'⟩
  ·rw[hf] at hrun;cases hrun
  have hops:∀op∈MemOp.ofEvents i gi.frame.fn gi.frame.place es,op.g=i∧op.act.touch?=none∧op.act.low B∧∀a,op.act≠.mark (.release a):=fun op hop=>by
   obtain⟨e,he,rfl⟩:=Go.Conc.mem_ofEvents hop
   exact⟨rfl,touch_mute (hm e he),low_mute (hm e he) B,not_release_mute (hm e he)⟩
  obtain⟨gs',hrt,hsz,hoth,hmn,hself,_⟩:=other_go core C.run hi hi0 (hstp w) core.keep (fun _ _ _ _ _=>rfl) sl
  have hTr:Tr (hidOf g.hid) (T++MemOp.ofEvents i gi.frame.fn gi.frame.place es) (T0++MemOp.ofEvents i gi.frame.fn gi.frame.place es):=hT.plain fun op hop y hy=>by
   rw[(hops op hop).2.1] at hy;cases hy
  refine⟨gs',_,upd q i k,hrt,hTr,hsz,hmn,⟨?_, ?_,C.noh,fun j gj hj hgj=> ?_,C.inv⟩,sum_lt hlt (by omega)⟩
  ·exact core_one ha core hi0 hlt (fun _ _=> .rfl) hsz hoth (fun op hop=>(hops op hop).1) (fun _ y e=>by rw[hself] at e;obtain rfl:=Option.some.inj e;rw[Deaf_own];exact hq') (past_all ha core (fun op hop=>(hops op hop).1) (fun op hop=>(hops op hop).2.1) fun op hop=>(hops op hop).2.2.1) core.keep
  ·refine(ha.fx2 hκ).exBy B A T0 gs w q gs' _ i _ C.ex hAi (fun x hx=>hoth x (fun e=>C.noh (e▸hx)) fun e=>hAi (e▸hx)) (fun x hx=>upd_ne q k hx) (fun op hop=>(hops op hop).1) (.inl fun op hop=>(hops op hop).2.1) (fun op hop y hy=>by rw[(hops op hop).2.1] at hy;cases hy) (fun e=>absurd e hi0) (fun op hop=>(hops op hop).2.2.2)
  ·rw[hoth j (fun e=>C.noh (e▸hj)) fun e=>hAi (e▸hj)] at hgj
   exact C.run j gj hj hgj
theorem sema_run (hκ:κ.Ok P) (ha:g.All) {a a':Goroutine} (hrun:a.status=.running) (ho:a.offers=none) (hwait:∀w,w.cell? (c6 g.s)=some (.int .u32 0)→stepG P true a w=.go (blk a) w #[])
 (htake:∀w,w.cell? (c6 g.s)=some (.int .u32 1)→w.frozen? (c6 g.s)=false→stepG P true a w=.go a' (w.setCell (c6 g.s) (.int .u32 0)) (semEvents (c6 g.s))):
 ∀(μ:Nat) (A:Nat→Prop) (bl:Bool) (gs:Array Goroutine) (w:World) (sl:Option (Nat×Nat)) (T T0:Trace) (q:Nat→Nat),sumTo gs.size q*2+(if bl then 0 else 1)=μ→CompA P (g.fx2 P κ) 0 B A T0 gs w q→gs[0]?=some (if bl then blk a else a)→(bl=true→∃i,A i)→Tr (hidOf g.hid) T T0→
  ∃(N:Nat) (gs':Array Goroutine) (w':World) (sl':Option (Nat×Nat)) (U U0:Trace) (q':Nat→Nat),RunsBy P N (crowd gs w sl) (crowd gs' w' sl') U∧Tr (hidOf g.hid) (T++U) (T0++U0)∧gs'[0]?=some a'∧gs'.size=gs.size∧Comp P ((g.set 0 0 false).fx P κ 0) 0 B (T0++U0) gs' w' q'∧Seen (hidOf g.hid) w w':=by
 intro μ
 induction μ using Nat.strongRecOn with
 |_ μ ih=>
  intro A bl gs w sl T T0 q hμ C h0 hbl hT
  have hX:=ha.fx2 hκ
  have E:g.Ex2 P κ B A T0 gs w q:=C.ex
  have hlt:0<gs.size:=(Array.getElem?_eq_some_iff.1 h0).1
  have haw:∀g∈gs,awake g:=C.awake h0 (by cases bl<;>simp[hrun,blk])
  have hsome:∃(i:Nat) (gi:Goroutine),gs[i]?=some gi∧gi.status=.running:=by
   cases bl with
   |false=>exact⟨0,a,by simpa using h0,hrun⟩
   |true=>
    obtain⟨i,hAi⟩:=hbl rfl
    obtain⟨gi,hgi⟩:=late_rec ha E hAi
    exact⟨i,gi,hgi,C.run i gi hAi hgi⟩
  obtain⟨i,gi,d,sl',hi,hgr,hpick⟩:=crowd_pick (P:=P) (w:=w) (sl:=sl) haw hsome
  have Cd:=C.at hX d
  have on:∀(gs':Array Goroutine) (w':World) (U U0:Trace) (q':Nat→Nat) (A':Nat→Prop) (bl':Bool),runT P (crowd gs (w.at d) sl') i=(.next (crowd gs' w' sl'),U)→Tr (hidOf g.hid) (T++U) (T0++U0)→gs'.size=gs.size→CompA P (g.fx2 P κ) 0 B A' (T0++U0) gs' w' q'→
   sumTo gs.size q'*2+(if bl' then 0 else 1)<μ→gs'[0]?=some (if bl' then blk a else a)→(bl'=true→∃i,A' i)→Seen (hidOf g.hid) (w.at d) w'→
   ∃(N:Nat) (gs':Array Goroutine) (w':World) (sl':Option (Nat×Nat)) (U U0:Trace) (q':Nat→Nat),RunsBy P N (crowd gs w sl) (crowd gs' w' sl') U∧Tr (hidOf g.hid) (T++U) (T0++U0)∧gs'[0]?=some a'∧gs'.size=gs.size∧Comp P ((g.set 0 0 false).fx P κ 0) 0 B (T0++U0) gs' w' q'∧Seen (hidOf g.hid) w w':=by
   intro gs' w' U U0 q' A' bl' hrt hTr hsz C' hlt' h0' hbl' hseen
   obtain⟨N,gs2,w2,sl2,U2,U02,q2,k1,k2,k3,k4,k5,k6⟩:=ih _ hlt' A' bl' gs' w' sl' (T++U) (T0++U0) q' (by rw[hsz]) C' h0' hbl' hTr
   exact⟨N+1,gs2,w2,sl2,U++U2,U0++U02,q2,k1.head (hpick.trans hrt),by rw[←Array.append_assoc,←Array.append_assoc];exact k2,k3,k4.trans hsz,by rw[←Array.append_assoc];exact k5,((Seen.at w d).trans hseen).trans k6⟩
  have main:∀{gs':Array Goroutine} {w':World} {A':Nat→Prop},Main gs gs' w'→((∃i,A' i)∨∀gm,gs[0]?=some gm→gs'[0]?=some (gm.again w'))→∃bl',gs'[0]?=some (if bl' then blk a else a)∧(bl'=true→∃i,A' i):=by
   intro gs' w' A' hm hw
   cases bl with
   |false=>
    refine⟨false, ?_,by simp⟩
    rw[hm.run h0 (by simpa using hrun)]
    exact h0
   |true=>
    have e2:gs'[0]?=some ((blk a).again w')→gs'[0]?=some (if false=true then blk a else a):=fun e=>by rw[e,blk_again hrun ho];rfl
    rcases hw with hw|hw
    ·rcases hm _ h0 with e|e
     ·exact⟨true,e,fun _=>hw⟩
     ·exact⟨false,e2 e,by simp⟩
    ·exact⟨false,e2 (hw _ h0),by simp⟩
  by_cases e0:i=0
  ·subst e0
   have hb:bl=false:=by
    cases bl with
    |false=>rfl
    |true=>
     rw[h0] at hi
     obtain rfl:=Option.some.inj hi
     simp[blk] at hgr
   subst hb
   rw[h0] at hi
   obtain rfl:=Option.some.inj hi
   simp only[Bool.false_eq_true,if_false] at h0 hgr
   have park:(w.at d).cell? (c6 g.s)=some (.int .u32 0)→(∃i,A i)→∃(N:Nat) (gs':Array Goroutine) (w':World) (sl':Option (Nat×Nat)) (U U0:Trace) (q':Nat→Nat),RunsBy P N (crowd gs w sl) (crowd gs' w' sl') U∧Tr (hidOf g.hid) (T++U) (T0++U0)∧gs'[0]?=some a'∧gs'.size=gs.size∧
    Comp P ((g.set 0 0 false).fx P κ 0) 0 B (T0++U0) gs' w' q'∧Seen (hidOf g.hid) w w':=by
    intro h6 hex
    have hstp:=hwait _ h6
    have hrt:=runT_crowd_go (P:=P) (sl:=sl') (i:=0) h0 (by simpa using hstp)
    have hself:((gs.map (woken P a (blk a) (w.at d))).setIfInBounds 0 (blk a))[0]?=some (blk a):=Array.getElem?_setIfInBounds_self_of_lt (by simpa using hlt)
    have hoth:=all_stand (w':=w.at d) (a:=a) (a':=blk a) ha Cd.core Cd.run
    refine on _ _ _ #[] q A true hrt ?_ (by simp) ?_ ?_ hself (fun _=>hex) (.refl _)
    ·simpa[MemOp.ofEvents] using hT
    ·exact main2 hκ ha Cd hlt (by simp) hoth (by simp) (by simp)
    ·simp only[Bool.false_eq_true,if_false] at hμ
     simp only[if_true]
     omega
   have Ed:g.Ex2 P κ B A T0 gs (w.at d) q:=Cd.ex
   cases Ed.late with
   |run h1 h2 h3 h4=>
    refine park h3 ?_
    have hpos:0<busy A g.gone:=by omega
    unfold busy at hpos
    obtain⟨y,_,hd⟩:=List.countP_pos_iff.1 hpos
    exact⟨y.i,by simpa using hd⟩
   |tail h1 h2 h3 h4 h5 h6 h7 h8=>
    rename_i x st gr
    exact park h8 ⟨x.i,(h2 _).2 rfl⟩
   |done h1 h2 h3=>
    have hI:g.I2 (w.at d):=Cd.inv
    obtain⟨cc,tt,hrow⟩:=hI.fz ha.on
    have hstp:=htake _ h3 (unfrozen hrow)
    obtain⟨w1,w2,w3⟩:=keep_all ha (show 5≤6 by omega) (.int .u32 0) Cd.core.keep hI
    have hrt:=runT_crowd_go (P:=P) (sl:=sl') (i:=0) h0 (by simpa using hstp)
    rw[show c6 g.s=⟨g.s,6,none⟩ from rfl] at hrt
    have hself:((gs.map (woken P a a' ((w.at d).setCell ⟨g.s,6,none⟩ (.int .u32 0)))).setIfInBounds 0 a')[0]?=some a':=Array.getElem?_setIfInBounds_self_of_lt (by simpa using hlt)
    have hoth:=all_stand (w':=(w.at d).setCell ⟨g.s,6,none⟩ (.int .u32 0)) (a:=a) (a':=a') ha Cd.core Cd.run
    have hsz:((gs.map (woken P a a' ((w.at d).setCell ⟨g.s,6,none⟩ (.int .u32 0)))).setIfInBounds 0 a').size=gs.size:=by simp
    generalize hgs:(gs.map (woken P a a' ((w.at d).setCell ⟨g.s,6,none⟩ (.int .u32 0)))).setIfInBounds 0 a'=gs' at hself hoth hsz hrt
    have hsem:=sem_ops (i:=0) (fn:=a.frame.fn) (pos:=a.frame.place) (E.lowS ha.on)
    have hb0:busy A g.gone=0:=by
     unfold busy
     rw[List.countP_eq_zero]
     intro y _
     simpa using h1 y.i
    have hcore:Core P ((g.set 0 0 false).fx P κ 0) 0 B A (T0++(MemOp.ofEvents 0 a.frame.fn a.frame.place (semEvents (c6 g.s))).map er) gs' ((w.at d).setCell ⟨g.s,6,none⟩ (.int .u32 0)) q:=
     core_main (X:=g.fx P κ 0) (X':=(g.set 0 0 false).fx P κ 0) Cd.core rfl rfl rfl rfl hlt hsz hoth w1 (fun j s c e _=>by rw[show(g.fx P κ 0).Inb j=none from seat_all ha j] at e;cases e) (fun op hop=>(hsem op hop).1) (fun op hop=>(hsem op hop).2.1) (fun op hop=>(hsem op hop).2.2.1)
      (fun i hi=>⟨fun hM=>by
       rcases hM with⟨e,_⟩|hM
       ·exact absurd e hi
       ·exact .inr hM,fun hM=>absurd hM (mem_all ha i)⟩)
      (fun hM=>by
       rcases hM with⟨_,e⟩|hM
       ·cases e
       ·exact absurd (.inr hM:g.Mem 0) (mem_all ha 0))
      (fun s e=>by rw[show(g.fx P κ 0).Inb 0=none from seat_all (κ:=κ) ha 0] at e;cases e) fun l hl=>still_mem hl
    refine⟨1,gs',_,sl',_,_,q,RunsBy.head (hpick.trans hrt) (RunsBy.refl _), ?_,hself,hsz,⟨A,hcore,⟨fun i hi=>absurd hi (h1 i),fun x _ hax=>absurd hax (h1 _),fun x hx _=>(E.rest x hx (h1 _)).app fun op hop _=>(hsem op hop).2.1,fun _=> ?_, ?_,E.low,E.lowS,fun _=> ?_,norel_app E.norel fun op hop=>(hsem op hop).2.2.2⟩,
     Cd.noh,fun j gj hj=>absurd hj (h1 j),⟨fun _=>cell_set (r:=g.s) (j:=6) h3 _,w2.fz,w2.back,fun x hx hn=> ?_,w2.shut⟩⟩,(Seen.at w d).trans w3⟩
    ·rw[Array.append_empty]
     exact tr_sem hT (ha.ok.s ha.on)
    ·have:(g.set 0 0 false).cnt+busy A (g.set 0 0 false).gone=0:=by rw[show(g.set 0 0 false).gone=g.gone from rfl,hb0];rfl
     rw[this]
     rw[show c5 (g.set 0 0 false).s=⟨g.s,5,none⟩ from rfl,cell_ne (.inr (by omega))]
     have h2':(w.at d).cell? ⟨g.s,5,none⟩=some (.int .u64 0):=h2
     rw[h2']
     simp
    ·show busy A g.gone≤0
     omega
    ·rw[sem_deaf]
     exact E.deaf0 ha.ear
    ·exfalso
     refine hn ?_
     show x∈g.rs.take g.off
     rw[ha.off,List.take_length]
     exact hx
  ·have hoff:∀gm c,gs[0]?=some gm→offersAt gm c true=[]:=fun gm c e=>by
    rw[h0] at e
    obtain rfl:=Option.some.inj e
    refine offers_none ?_ c true
    cases bl<;>simp[blk,ho]
   by_cases hAi:A i
   ·obtain⟨gs',w',U,U0,q',A',k1,k2,k3,k4,k5,k6,k7,k8⟩:=ex2_step hκ ha Cd hAi hi hT hoff sl'
    obtain⟨bl',m1,m2⟩:=main k4 k8
    refine on gs' w' U U0 q' A' bl' k1 k2 k3 k5 ?_ m1 m2 k7
    cases bl<;>cases bl'<;>simp at hμ⊢ <;>omega
   ·obtain⟨gs',U,q',k1,k2,k3,k4,k5,k6⟩:=leave2 hκ ha Cd e0 hAi hi hgr hT sl'
    have hex:bl=true→∃i,A i:=hbl
    have hm:∃bl',gs'[0]?=some (if bl' then blk a else a)∧(bl'=true→∃i,A i):=by
     cases bl with
     |false=>exact main (A':=A) k4 (.inr fun gm e=>by rw[k4.run h0 (by simpa using hrun),h0];rw[h0] at e;obtain rfl:=Option.some.inj e;simp[again_of_running (.inl hrun)])
     |true=>exact main k4 (.inl (hex rfl))
    obtain⟨bl',m1,m2⟩:=hm
    refine on gs' _ U U q' A bl' k1 k2 k3 k5 ?_ m1 m2 (.refl _)
    cases bl<;>cases bl'<;>simp at hμ⊢ <;>omega
theorem co_sema (hZ:Z.Ok P) (hκ:κ.Ok P) (ha:g.All) {a a':Goroutine} {v:World} (hrun:a.status=.running) (ho:a.offers=none) (hwait:∀w,w.cell? (c6 g.s)=some (.int .u32 0)→stepG P true a w=.go (blk a) w #[])
 (htake:∀w,w.cell? (c6 g.s)=some (.int .u32 1)→w.frozen? (c6 g.s)=false→stepG P true a w=.go a' (w.setCell (c6 g.s) (.int .u32 0)) (semEvents (c6 g.s))) (hc:Co P Z 0 ((g.set 0 0 false).fx P κ 0) a' v):Co P Z 0 (g.fx2 P κ) a v:=by
 intro T T0 gs w sl q hT hi hga
 obtain⟨A,C⟩:=hi.comp
 obtain⟨N,gs',w',sl',U,U0,q',k1,k2,k3,k4,k5,k6⟩:=sema_run hκ ha hrun ho hwait htake _ A false gs w sl T T0 q rfl C (by simpa using hga) (by simp) hT
 refine hZ.back N _ _ U T k1 (hc (T++U) (T0++U0) gs' w' sl' q' k2 ⟨by rw[k6.size];exact k5,k4.trans hi.n,k6.kinds v hi.vis,hi.nv,hi.size,hi.old.seen k6⟩ k3)
end
end Co
end Go.Proofs.Ytlngbdggehghgaa

namespace Go.Proofs.Ytlngbdggehghgaa
set_option linter.unusedSimpArgs false
set_option linter.unusedVariables false
namespace Co
open Go.Conc
open Go.ConcN (sumTo upd sumTo_upd upd_ne upd_same)
def Gh.away (g:Gh):Gh:={on:=false,s:=0,rs:=[],up:=0,off:=0,cnt:=0,lim:=0,m0:=none,ear:=true,hid:=g.hid,n:=g.n}
section
variable {P:Program} {Z:Goal} {h:Nat} {X:Fx} {κ:Kit} {g g':Gh} {B:Nat} {A A':Nat→Prop} {T T0 U U0:Trace} {gs gs':Array Goroutine} {w w':World} {q q':Nat→Nat}
theorem Gh.Ok.away (g:Gh):g.away.Ok 0:=
 {s:=(fun e=>by cases e),r:=(fun _ hx=>by cases hx),up:=Nat.le_refl _,pos:=(fun _ hx=>by cases hx),inj:=List.nodup_nil,off:=.inl rfl,ear:=fun _=>rfl,chn:=List.nodup_nil,num:=fun _ hx=>by simp[Gh.away] at hx,few:=by simp[Gh.away],m0:=(fun _ e=>by cases e)}
theorem co_acquire (hZ:Z.Ok P) (hκ:κ.Ok P) (ha:g.All) {a a':Goroutine} {v:World} (hrun:a.status=.running) (hst:∀w,stepG P true a w=.go a' w #[mk (.acquire (c5 g.s))]) (hc:Co P Z 0 (g.away.fx P κ 0) a' v):
 Co P Z 0 ((g.set 0 0 true).fx P κ 0) a v:=by
 have hg:=ha.ok
 have hg':(g.set 0 0 true).Ok 0:=hg.set 0 0 true (by have:=hg.few;omega)
 refine co_turn hZ (hg'.fx hκ) hrun fun T T0 gs w sl q hT hi hga=> ?_
 obtain⟨A,C⟩:=hi.comp
 have E:(g.set 0 0 true).Ex P κ w.heap.size A T0 gs w q:=C.ex
 have hAn:∀i,¬A i:=fun i hi=>by
  obtain⟨x,hx,rfl⟩:=E.sub i hi
  have:=busy_pos hx hi
  have h2:busy A (g.set 0 0 true).gone≤0:=E.lim
  omega
 have hsn:∀i,(g.set 0 0 true).seat κ i=none:=fun i=>show g.seat κ i=none from seat_all ha i
 have hsit:g.sit=[]:=by
  unfold Gh.sit
  rw[ha.off]
  apply List.drop_eq_nil_of_le
  simp
  omega
 have hlt:0<gs.size:=(Array.getElem?_eq_some_iff.1 hga).1
 have hstp:=hst w
 have hrt:=runT_crowd_go (P:=P) (sl:=sl) (i:=0) hga (by simpa using hstp)
 have hidle:∀j y,j≠0→gs[j]?=some y→0<j∧QuitsD P (q j) (Deaf T0 j) y:=fun j y hj hy=>by
  have:=C.core.idle j y (fun z=>z.elim hj (hAn j)) hy
  rw[show((g.set 0 0 true).fx P κ 0).Inb j=none from hsn j] at this
  exact this
 have hoth:∀j,j≠0→((gs.map (woken P a a' w)).setIfInBounds 0 a')[j]?=gs[j]?:=by
  intro j hj
  rw[Array.getElem?_setIfInBounds_ne (fun e=>hj e.symm),Array.getElem?_map]
  cases e:gs[j]? with
  |none=>rfl
  |some y=>simp[woken_quitsD (hidle j y hj e).2]
 generalize hU:MemOp.ofEvents 0 a.frame.fn a.frame.place #[mk (.acquire (c5 g.s))]=U at hrt
 have eU:U=#[{g:=0,fn:=a.frame.fn,pos:=a.frame.place,act:=.mark (.acquire (c5 g.s))}]:=by
  subst hU
  rw[ofEvents_eq]
  simp[mk,MemAct.ofEvent]
 have hone:∀op∈U,op.g=0∧op.act=.mark (.acquire (c5 g.s)):=by
  intro op hop
  rw[eU] at hop
  simp at hop
  subst hop
  exact⟨rfl,rfl⟩
 have hq:∀j,∀op∈U,∀d,deafStep j d op=d:=fun j op hop d=>by unfold deafStep;rw[(hone op hop).2]
 have hd0:Deaf T0 0=0:=C.core.past.hears 0 (.inl ⟨rfl,rfl⟩)
 have e0:(T0++U)[T0.size]?=some {g:=0,fn:=a.frame.fn,pos:=a.frame.place,act:=.mark (.acquire (c5 g.s))}:=by rw[eU];simp
 have hS:g.s<w.heap.size:=E.lowS ha.on
 have hp1:PastG g.Still (fun i=>i=0) ((g.set 0 0 true).fx P κ 0).Lo w.heap.size (Knows (T0++U) 0) (T0++U):=
  PastG.appMute (K:=Knows T0 0) (g:=0) (PastG.fewer C.core.past fun i hi=> .inl ⟨hi,rfl⟩) (fun j (hk:Knows T0 0 j)=>hk.app U) (fun op hop=>(hone op hop).1) (fun op hop=>by rw[(hone op hop).2];rfl) (fun _=>Deaf_quiet (hq 0)) (fun op hop=>by rw[(hone op hop).2];exact hS)
 have hpast:PastG (g.away.fx P κ 0).Still (g.away.fx P κ 0).Mem (g.away.fx P κ 0).Lo w.heap.size (Knows (T0++U) 0) (T0++U):=by
  refine⟨hp1.clean,fun j b hb hm=> .inl ?_,fun j b _ _ hs=> ?_,fun i hi=> ?_,hp1.seen⟩
  ·rcases hp1.known j b hb hm with hk|⟨_,_,gg,hgg,hne,hlo⟩
   ·exact hk
   ·rcases hlo with hlo|⟨x,hx,rfl⟩
    ·rw[hsn gg] at hlo;cases hlo
    ·obtain⟨r,h1,h2,h3,h4⟩:=(E.rest x hx (hAn _)).app (U:=U) fun op hop _=>by rw[(hone op hop).2];rfl
     have hjr:=h4 j b hb hgg
     have hr:r<T0.size:=by
      by_cases hr:r<T0.size
      ·exact hr
      ·exfalso
       obtain⟨op,e1,e2⟩:=act?_get h2
       rcases getElem?_append_cases e1 with⟨hlt',_⟩|⟨_,hop⟩
       ·exact hr hlt'
       ·rw[(hone op hop).2] at e2;cases e2
     have hearA:(T0++U).heard T0.size:=⟨0,g?_of e0,by rw[deaf_old (Nat.le_refl _)];exact hd0⟩
     have edge:HappensBefore (T0++U) r T0.size:=Relation.TransGen.single (.inr ⟨.marked (a:=c5 g.s) hr (.inr h2) (by simp[Trace.act?,e0]) (fun k _ _=>norel_app E.norel (fun op hop ad=>by rw[(hone op hop).2];simp) k _),h3,hearA⟩)
     exact⟨T0.size,_,e0,rfl,.inr (Relation.TransGen.trans (Relation.TransGen.single (.inl ⟨hjr,x.i,hgg,h1⟩)) edge)⟩
  ·obtain⟨x,hx,_⟩:=hs;cases hx
  ·rcases hi with⟨rfl,_⟩|⟨x,hx,_⟩
   ·rw[Deaf_quiet (hq 0)];exact hd0
   ·unfold Gh.sit Gh.away at hx;simp at hx
 have hsz:((gs.map (woken P a a' w)).setIfInBounds 0 a').size=gs.size:=by simp
 have hself:((gs.map (woken P a a' w)).setIfInBounds 0 a')[0]?=some a':=Array.getElem?_setIfInBounds_self_of_lt (by simpa using hlt)
 generalize hgs:(gs.map (woken P a a' w)).setIfInBounds 0 a'=gs' at hoth hrt hsz hself
 have hno:∀i,g.away.seat κ i=none:=fun i=>by unfold Gh.seat Gh.sit Gh.away;split<;>simp
 have hcore:Core P (g.away.fx P κ 0) 0 w.heap.size (fun _=>False) (T0++U) gs' w q:=by
  refine⟨fun j y hj hy=> ?_,fun j s c _ e _=> ?_,fun j s e=> ?_,fun _ _ hx=>hx.elim,fun j _ s _ _ e _=> ?_,fun j hj=> ?_,fun j s e=> ?_,fun j hj=> ?_,fun j s _ e=> ?_,hpast,(fun x hx=>by cases hx)⟩
  ·have hj0:j≠0:=fun e=>hj (.inl e)
   rw[hoth j hj0] at hy
   rw[show(g.away.fx P κ 0).Inb j=none from hno j]
   have:=hidle j y hj0 hy
   exact⟨this.1,by rw[Deaf_quiet (hq j)];exact this.2⟩
  ·rw[show(g.away.fx P κ 0).Inb j=none from hno j] at e;cases e
  ·rw[show(g.away.fx P κ 0).Inb j=none from hno j] at e;cases e
  ·rw[show(g.away.fx P κ 0).Inb j=none from hno j] at e;cases e
  ·rw[Deaf_quiet (hq j)];exact C.core.above j (by omega)
  ·rw[show(g.away.fx P κ 0).Inb j=none from hno j] at e;cases e
  ·rcases hj with⟨e,_⟩|⟨x,hx,_⟩
   ·exact .inr (.inl e)
   ·unfold Gh.sit Gh.away at hx;simp at hx
  ·rw[show(g.away.fx P κ 0).Inb j=none from hno j] at e;cases e
 have hTr:Tr (hidOf g.hid) (T++U) (T0++U):=Tr.plain (show Tr (hidOf g.hid) T T0 from hT) fun op hop x hx=>by rw[(hone op hop).2] at hx;cases hx
 refine⟨gs',w,sl,U,_,q,g.away.fx P κ 0,0,a',v,hrt,hTr,⟨⟨fun _=>False,hcore,⟨fun _ hf=>hf.elim,fun x hx=> ?_,fun x hx=> ?_,(fun e=>by cases e), ?_,fun x hx=> ?_,(fun e=>by cases e),(fun e=>by cases e),norel_app E.norel fun op hop ad=>by rw[(hone op hop).2];simp⟩,fun hf=>hf,fun _ _ hf=>hf.elim,
  ⟨(fun e=>by cases e),(fun e=>by cases e),(fun x hx=>by cases hx),(fun x hx=>by cases hx),fun x hx=> ?_⟩⟩,hsz.trans hi.n,hi.vis,hi.nv,hi.size,hi.old⟩,hself,hc⟩
 ·simp[Gh.gone,Gh.away] at hx
 ·simp[Gh.gone,Gh.away] at hx
 ·simp[busy,Gh.gone,Gh.away]
 ·simp[Gh.gone,Gh.away] at hx
 ·simp[Gh.gone,Gh.away] at hx
end
end Co
end Go.Proofs.Ytlngbdggehghgaa

/-
  The company of a scheduler obeys the laws that the logic asks for: above all, what a doer's step does. Conditions: as each theorem says.
  Main's own steps at the group (it counts, it looks, it goes deaf, it hears again), others going on meanwhile. Conditions: as each theorem says.
  Main closes a worker's channel: the worker is a doer from then on. Conditions: as each theorem says.
  The company while main waits: a doer's step, whoever main is; the last one wakes main. Conditions: as each theorem says.
-/
import Derived.Test.YtlngbdggehghgaaCoP
namespace Go.Proofs.Ytlngbdggehghgaa
set_option linter.unusedSimpArgs false
set_option linter.unusedVariables false
namespace Co
open Go.Conc
open Go.ConcN (sumTo upd sumTo_upd upd_ne upd_same)
section
variable {P:Program} {h:Nat} {κ:Kit} {g:Gh} {B:Nat} {A A':Nat→Prop} {T U:Trace} {gs gs':Array Goroutine} {w w':World} {q:Nat→Nat}
theorem set_row {s:Nat} (a:Addr) {y:Value} {c:Array Value} {t:TypeId} (h:w.heap[s]?=some (.cells c t (0,0))):∃c' t',(w.setCell a y).heap[s]?=some (.cells c' t' (0,0)):=by
 by_cases e:s=a.block
 ·exact⟨if a.spot.isSome then c else c.setIfInBounds a.off y,t,by unfold World.setCell;simp[Array.getElem?_modify,←e,h]⟩
 ·exact⟨c,t,by rw[heap_ne e];exact h⟩
theorem busy_congr {l:List Wk} (hA:∀x∈l,A' x.i↔A x.i):busy A' l=busy A l:=by
 unfold busy
 exact List.countP_congr fun x hx=>by simp[hA x hx]
theorem busy_less {l:List Wk} (hn:(l.map (·.i)).Nodup) {x:Wk} (hx:x∈l) (hAx:A x.i) (hA':¬A' x.i) (hA:∀j,j≠x.i→(A' j↔A j)):busy A' l+1=busy A l:=by
 induction l with
 |nil=>cases hx
 |cons a l ih=>
  simp only[List.map_cons,List.nodup_cons] at hn
  unfold busy at ih⊢
  rw[List.countP_cons,List.countP_cons]
  rcases List.mem_cons.1 hx with rfl|h1
  ·have:busy A' l=busy A l:=busy_congr fun y hy=>hA y.i fun e=>hn.1 (List.mem_map.2 ⟨y,hy,e⟩)
   unfold busy at this
   simp[hAx,hA',this]
  ·have hne:a.i≠x.i:=fun e=>hn.1 (List.mem_map.2 ⟨x,h1,e.symm⟩)
   have:=ih hn.2 h1
   by_cases e:A a.i
   ·simp only[e,(hA a.i hne).2 e,decide_true,if_true]
    omega
   ·have e':¬A' a.i:=fun z=>e ((hA a.i hne).1 z)
    simp only[e,e',decide_false,Bool.false_eq_true,if_false]
    omega
theorem gone_nodup (hg:g.Ok h):(g.gone.map (·.i)).Nodup:=by
 unfold Gh.gone
 rw[List.map_take]
 exact(List.take_sublist _ _).nodup hg.inj
theorem busy_pos {l:List Wk} {x:Wk} (hx:x∈l) (hAx:A x.i):0<busy A l:=by
 unfold busy
 exact List.countP_pos_iff.2 ⟨x,hx,by simpa using hAx⟩
theorem busy_le (A:Nat→Prop) (l:List Wk):busy A l≤l.length:=List.countP_le_length
theorem gone_len:g.gone.length≤g.off:=by unfold Gh.gone;simp;omega
theorem norel_app (h:∀k a,T.act? k≠some (.mark (.release a))) (hu:∀op∈U,∀a,op.act≠.mark (.release a)):∀k a,(T++U).act? k≠some (.mark (.release a)):=by
 intro k a e
 obtain⟨op,h1,h2⟩:=act?_get e
 rcases getElem?_append_cases h1 with⟨_,h3⟩|⟨_,h3⟩
 ·exact h k a (by simp[Trace.act?,h3,h2])
 ·exact hu op h3 a h2
theorem ex_put (hg:g.Ok h) (E:g.Ex P κ B A T gs w q) {x:Wk} (hx:x∈g.gone) {n':Nat} (hA:∀j,j≠x.i→(A' j↔A j)) (hoth:∀j,j≠x.i→gs'[j]?=gs[j]?) (hU:∀op∈U,op.g=x.i)
 (hw:∀op∈U,∀y,op.act.touch?=some y→g.Still y.loc→y.write=false) (hme:A' x.i→∃gr,gs'[x.i]?=some gr∧Doer P κ g B (T++U) x n' gr) (hre:¬A' x.i→Rel g.s (T++U) x.i)
 (hst:g.on=true→w'.cell? (c5 g.s)=some (.int .u64 (((g.cnt+busy A' g.gone:Nat):Int)*KK))) (hlim:busy A' g.gone≤g.lim) (hrl:∀op∈U,∀a,op.act≠.mark (.release a)):g.Ex P κ B A' (T++U) gs' w' (upd q x.i n'):=by
 refine⟨fun i hi=> ?_,fun y hy hay=> ?_,fun y hy hay=> ?_,hst,hlim,E.low,E.lowS,fun e=>by rw[Deaf_other T (g':=x.i) (hg.pos x (gone_rs hx)) U hU];exact E.deaf0 e,norel_app E.norel hrl⟩
 ·by_cases e:i=x.i
  ·exact⟨x,hx,e.symm⟩
  ·exact E.sub i ((hA i e).1 hi)
 ·by_cases e:y.i=x.i
  ·obtain rfl:=map_inj hg.inj (gone_rs hy) (gone_rs hx) e
   rw[upd_same]
   exact hme hay
  ·obtain⟨gr,h1,h2⟩:=E.each y hy ((hA _ e).1 hay)
   rw[upd_ne q n' e,hoth _ e]
   exact⟨gr,h1,h2.app e hU hw⟩
 ·by_cases e:y.i=x.i
  ·obtain rfl:=map_inj hg.inj (gone_rs hy) (gone_rs hx) e
   exact hre hay
  ·exact(E.rest y hy fun z=>hay ((hA _ e).2 z)).app fun op hop eg=>absurd ((hU op hop).symm.trans eg) (Ne.symm e)
theorem ex_by (hg:g.Ok h) (E:g.Ex P κ B A T gs w q) {q':Nat→Nat} {i:Nat} (hi:¬A i) (hoth:∀x,A x→gs'[x]?=gs[x]?) (hq:∀x,x≠i→q' x=q x) (hU:∀op∈U,op.g=i) (hm:(∀op∈U,op.act.touch?=none)∨i=h∨g.seat κ i≠none)
 (hw:∀op∈U,∀y,op.act.touch?=some y→g.Still y.loc→y.write=false) (hdh:i=h→Deaf (T++U) h=Deaf T h) (hrl:∀op∈U,∀a,op.act≠.mark (.release a)):g.Ex P κ B A (T++U) gs' w q':=by
 refine⟨E.sub,fun y hy hay=> ?_,fun y hy hay=> ?_,E.st,E.lim,E.low,E.lowS,fun e=> ?_,norel_app E.norel hrl⟩
 ·have e:y.i≠i:=fun e=>hi (e▸hay)
  obtain⟨gr,h1,h2⟩:=E.each y hy hay
  rw[hq _ e,hoth _ hay]
  exact⟨gr,h1,h2.app e hU hw⟩
 ·refine(E.rest y hy hay).app fun op hop eg=> ?_
  have e:i=y.i:=(hU op hop).symm.trans eg
  rcases hm with h1|h1|h1
  ·exact h1 op hop
  ·rcases hg.off with h2|⟨_,h2,_⟩
   ·exact absurd h2 (off_pos hy)
   ·exact absurd (by rw[←e,h1,h2]) (hg.pos y (gone_rs hy))
  ·exact absurd (by rw[e];exact seat_gone hg hy) h1
 ·have h0:=hg.ear e
  subst h0
  by_cases e0:i=0
  ·rw[hdh e0];exact E.deaf0 e
  ·rw[Deaf_other T (g':=i) e0 U hU];exact E.deaf0 e
theorem touch_wgs {s:Nat} {es:Array Event} (hes:Wgs s es) {i:Nat} {fn:FuncId} {pos:String}:∀op∈MemOp.ofEvents i fn pos es,op.g=i∧∃j wr,(j=5∨j=6)∧op.act.touch?=some ⟨.cell ⟨s,j,none⟩,wr,.atomic⟩:=by
 intro op hop
 obtain⟨e,he,rfl⟩:=Go.Conc.mem_ofEvents hop
 obtain⟨j,wr,hj,rfl⟩:=hes e he
 exact⟨rfl,j,wr,hj,by cases wr<;>rfl⟩
def erased (i:Nat) (U:Trace):Trace:=U.map fun op=>{op with g:=i,act:=.mark .noRoom}
theorem erased_ops {i:Nat} {U:Trace}:∀op∈erased i U,op.g=i∧op.act=.mark .noRoom:=by
 intro op hop
 obtain⟨y,_,rfl⟩:=Array.mem_map.1 hop
 exact⟨rfl,rfl⟩
theorem deaf_erased {i:Nat} {T U:Trace} (j:Nat):Deaf (T++erased i U) j=Deaf T j:=
 Deaf_quiet fun op hop d=>deafStep_mute (erased_ops op hop).2 j d
theorem tr_erase {H:Nat→Option Nat} {T T0:Trace} (hT:Tr H T T0) {s i:Nat} (hs:H s=some 5) (hd:Deaf T0 i≠0) {es:Array Event} (hes:Wgs s es) {fn:FuncId} {pos:String}:
 Tr H (T++MemOp.ofEvents i fn pos es) (T0++erased i (MemOp.ofEvents i fn pos es)):=by
 have hq:∀op∈MemOp.ofEvents i fn pos es,∀d,deafStep i d op=d:=by
  intro op hop d
  obtain⟨_,j,wr,_,ht⟩:=touch_wgs hes op hop
  exact deafStep_touch ht i d
 refine hT.app (by simp[erased]) fun k op op0 h1 h2=> ?_
 have hk:k<(MemOp.ofEvents i fn pos es).size:=lt_size_of_getElem? h1
 obtain⟨eg,j,wr,hj,ht⟩:=touch_wgs hes op (Array.mem_of_getElem? h1)
 obtain⟨e0,e1⟩:=erased_ops op0 (Array.mem_of_getElem? h2)
 refine⟨by rw[e0,eg],.inr ⟨e1,_,ht,⟨_,rfl,hs,by rcases hj with rfl|rfl<;>simp⟩,.inr ⟨rfl, ?_⟩⟩⟩
 rw[eg,deaf_quiet hq k (by omega)]
 rw[hT.deafAll] at hd
 exact hd
theorem evc_rel {Still:Loc→Prop} {es:Array Event} (hes:∀e∈es,EvC Still B e) {i:Nat} {fn:FuncId} {pos:String}:∀op∈MemOp.ofEvents i fn pos es,∀a,op.act≠.mark (.release a):=by
 intro op hop a
 obtain⟨e,he,rfl⟩:=Go.Conc.mem_ofEvents hop
 obtain⟨b,rfl,_⟩:=hes e he
 rw[ofEvent_cell0]
 simp
theorem ex_step (hκ:κ.Ok P) (hg:g.Ok h) {T0:Trace} {sl:Option (Nat×Nat)} {i:Nat} {gi:Goroutine} (C:CompA P (g.fx P κ h) h B A T0 gs w q) (hAi:A i) (hi:gs[i]?=some gi) (hT:Tr (hidOf g.hid) T T0)
 (hh:∀gh,gs[h]?=some gh→gh.status=.running):DoStep P (g.fx P κ h) h B T T0 gs w q sl i:=by
 have E:g.Ex P κ B A T0 gs w q:=C.ex
 obtain⟨x,hx,rfl⟩:=E.sub i hAi
 obtain⟨gr,hgr,hd⟩:=E.each x hx hAi
 rw[hi] at hgr
 obtain rfl:=Option.some.inj hgr
 obtain⟨hon,rfl,hup⟩:=hg.off.resolve_left (off_pos hx)
 have hx0:x.i≠0:=hg.pos x (gone_rs hx)
 have hm0:(x.i==0)=false:=by simp[hx0]
 have uK:∀(t U:Trace) (j:Nat),Knows t 0 j→Knows (t++U) 0 j:=fun t U j hk=>hk.app U
 have hin:(g.fx P κ 0).Inb x.i=none:=seat_gone hg hx
 have hmem:¬(g.fx P κ 0).Mem x.i:=by
  rintro(⟨e,_⟩|⟨y,hy,e⟩)
  ·exact hx0 e
  ·exact gone_sit hg hx hy e.symm
 have hlo:(g.fx P κ 0).Lo x.i:=⟨hx0,.inr ⟨x,hx,rfl⟩⟩
 have hlt:x.i<gs.size:=(Array.getElem?_eq_some_iff.1 hi).1
 have hK:g.K w:=C.core.keep
 have hgi:gi.status=.running:=C.run _ _ hAi hi
 have hs5:hidOf g.hid g.s=some 5:=hg.s hon
 have hrun':∀(gs':Array Goroutine),(∀j,j≠x.i→gs'[j]?=gs[j]?)→(∀gr,gs'[x.i]?=some gr→gr.status=.running)→∀j gj,A j→gs'[j]?=some gj→gj.status=.running:=by
  intro gs' hoth hself j gj hj hgj
  by_cases e:j=x.i
  ·rw[e] at hgj;exact hself gj hgj
  ·rw[hoth j e] at hgj;exact C.run j gj hj hgj
 have stay:∀(gs':Array Goroutine) (gr':Goroutine) (U:Trace) (n':Nat),runT P (crowd gs w sl) x.i=(.next (crowd gs' w sl),U)→gs'.size=gs.size→(∀j,j≠x.i→gs'[j]?=gs[j]?)→gs'[x.i]?=some gr'→gr'.status=.running→
  (∀op∈U,op.g=x.i)→(∀op∈U,∀y,op.act.touch?=some y→g.Still y.loc∧y.write=false)→(∀op∈U,∀a,op.act≠.mark (.release a))→PastG g.Still g.Mem (g.fx P κ 0).Lo B (Knows (T0++U) 0) (T0++U)→n'<q x.i→Doer P κ g B (T0++U) x n' gr'→
  DoStep P (g.fx P κ 0) 0 B T T0 gs w q sl x.i:=by
  intro gs' gr' U n' hrt hsz hoth hself hrun hU htouch hrl hpast hn' hdo
  refine⟨gs',w,U,U,upd q x.i n',A,hrt,hT.plain fun op hop y hy=>hg.wg (htouch op hop y hy).1,hsz,hoth 0 (fun e=>hx0 e.symm),⟨?_, ?_,C.noh,hrun' gs' hoth (fun gr e=>by rw[hself] at e;obtain rfl:=Option.some.inj e;exact hrun),C.inv⟩,sum_lt hlt hn',.refl _⟩
  ·exact core_put C.core hx0 hin hmem (fun j _=> .rfl) hlt hsz hoth hU (fun ha=>absurd hAi ha) hpast hK (fun _ _ _ _ _=>rfl)
  ·exact ex_put hg E hx (fun j _=> .rfl) hoth hU (fun op hop y hy _=>(htouch op hop y hy).2) (fun _=>⟨gr',hself,hdo⟩) (fun ha=>absurd hAi ha) E.st E.lim hrl
 have hset:∀(a':Goroutine),(gs.setIfInBounds x.i a')[x.i]?=some a':=fun a'=>Array.getElem?_setIfInBounds_self_of_lt hlt
 have hset':∀(a':Goroutine) j,j≠x.i→(gs.setIfInBounds x.i a')[j]?=gs[j]?:=fun a' j hj=>Array.getElem?_setIfInBounds_ne fun e=>hj e.symm
 have gogo:∀(g':Goroutine) (w':World) (es:Array Event),stepG P false gi w=.go g' w' es→g.K w'→(∀j s c,g.seat κ j=some s→s.has c→w'.heap[c]?=w.heap[c]?)→
  ∃gs',runT P (crowd gs w sl) x.i=(.next (crowd gs' w' sl),MemOp.ofEvents x.i gi.frame.fn gi.frame.place es)∧gs'.size=gs.size∧(∀j,j≠x.i→gs'[j]?=gs[j]?)∧gs'[x.i]?=some g':=by
  intro g' w' es hst hK' hch
  exact⟨_,runT_crowd_go (sl:=sl) hi (by rw[hm0];exact hst),by simp,others_stand C hK' hch hh,Array.getElem?_setIfInBounds_self_of_lt (by simpa using hlt)⟩
 generalize hqx:q x.i=nq at hd
 cases hd with
 |far hr0 hgo hdf hwr=>
  rename_i k w₀
  have hcase:(∃g₂,AtIn P false g.K g.Still B (κ.seat g.s x) gi g₂)∨∃k' g' es,k=k'+1∧stepG P false gi w=.go g' w es∧(∀e∈es,EvC g.Still B e)∧Goes P false (RK g.K) (DS g.Still B) (fun a _=> ∃g₂,AtIn P false g.K g.Still B (κ.seat g.s x) a g₂) k' g' w:=by
   cases k with
   |zero=>exact .inl (hgo w hK)
   |succ k'=>
    rcases hgo with hstop|⟨_,hstep⟩
    ·exact .inl (hstop w hK)
    ·have hs:=hstep w hK
     cases hgo':stepG P false gi w with
     |go g' w' es=>
      rw[hgo',goes_go] at hs
      obtain⟨⟨rfl,hes⟩,hG'⟩:=hs
      exact .inr ⟨k',g',es,rfl,rfl,hes,hG'⟩
     |_=>rw[hgo'] at hs;exact hs.elim
  rcases hcase with⟨g₂,hst1,hf1,hc1,hdy1,hhome,es,hes,hstp⟩|⟨k',g',es,rfl,hst,hes,hG'⟩
  ·--it finds its channel closed
   obtain⟨hops,hr,hl,hd0⟩:=evC_ops (i:=x.i) (fn:=gi.frame.fn) (pos:=gi.frame.place) hes
   obtain⟨kc,hcl⟩:=C.inv.shut x hx
   have hp:partners (gs.setIfInBounds x.i ph) x.ct true=[]:=partners_nil fun j y hy=>by
    rcases getElem?_stand gs x.i j y hy with⟨_,rfl⟩|⟨_,hy'⟩
    ·exact offersAt_ph _ _
    ·by_cases e0:j=0
     ·subst e0;exact offersAt_of_not_blocked (by rw[hh y hy'];simp) _ _
     ·by_cases ea:A j
      ·exact offersAt_of_not_blocked (by rw[C.run j y ea hy'];simp) _ _
      ·exact C.core.noSend (fun z=>z.elim e0 ea) hy' _
   have hrt:=crowd_recv_closed (P:=P) (sl:=sl) hi (by rw[hm0];exact hstp w hK) hcl hp
   obtain⟨n,hn,hway⟩:=hκ.out g.s x g₂ hhome
   have e1:g₂.finishComm P #[rcase x.ct κ.zt] (κ.seat g.s x).shape 0 κ.zt false=Go.Conc.served g₂ (recvd true κ.zt false):=by
    rw[finishComm_served,show(κ.seat g.s x).shape=.recv true from rfl,commResult_one]
   generalize hop1:({g:=x.i,fn:=g₂.frame.fn,pos:=g₂.frame.place,act:=.recvClosed x.ct}:MemOp)=op1 at hrt
   have ho1:op1.g=x.i∧op1.act=.recvClosed x.ct:=by subst hop1;exact⟨rfl,rfl⟩
   have hU:∀op∈MemOp.ofEvents x.i gi.frame.fn gi.frame.place es++#[op1],op.g=x.i:=by
    intro op hop
    rcases Array.mem_append.1 hop with z|z
    ·exact hops op z
    ·simp only[List.mem_toArray,List.mem_cons,List.not_mem_nil,or_false] at z;subst z;exact ho1.1
   have hone:∀op∈(#[op1]:Trace),op=op1:=by intro op hop;simpa using hop
   have p1:=past_read (U:=MemOp.ofEvents x.i gi.frame.fn gi.frame.place es) (Kf:=Knows T0 0) C.core.past (Kf':=Knows (T0++MemOp.ofEvents x.i gi.frame.fn gi.frame.place es) 0) (uK _ _) hwr hlo hdf hops hr (hd0 T0) hl
   have p2:=p1.appMute (u:=#[op1]) (g:=x.i) (K':=Knows ((T0++MemOp.ofEvents x.i gi.frame.fn gi.frame.place es)++#[op1]) 0) (uK _ _) (fun op hop=>by rw[hone op hop];exact ho1.1) (fun op hop=>by rw[hone op hop,ho1.2];rfl) (fun hm=>absurd hm hmem)
    (fun op hop=>by rw[hone op hop,ho1.2];exact E.low x hx)
   rw[Array.append_assoc] at p2
   have hdz:Deaf (T0++(MemOp.ofEvents x.i gi.frame.fn gi.frame.place es++#[op1])) x.i=0:=by
    rw[←Array.append_assoc,Deaf_quiet (u:=#[op1]) (fun op hop d=>by rw[hone op hop];unfold deafStep;rw[ho1.2]),hd0 T0]
    exact hdf
   refine stay _ _ _ n hrt (by simp) (hset' _) (hset _) (by rw[e1];exact hway.running) hU (fun op hop y hy=> ?_) (fun op hop a=> ?_) p2 (by rw[hqx];omega) (by rw[e1];exact .way hway hdz (fun e=>by cases e))
   ·rcases Array.mem_append.1 hop with z|z
    ·exact⟨(hr op z y hy).2,(hr op z y hy).1⟩
    ·rw[hone op z,ho1.2] at hy;cases hy
   ·rcases Array.mem_append.1 hop with z|z
    ·exact evc_rel hes op z a
    ·rw[hone op z,ho1.2];simp
  ·--a step of its way to the receive
   obtain⟨hops,hr,hl,hd0⟩:=evC_ops (i:=x.i) (fn:=gi.frame.fn) (pos:=gi.frame.place) hes
   obtain⟨gs',hrt,hsz,hoth,hself⟩:=gogo g' w es hst hK (fun _ _ _ _ _=>rfl)
   have hrun2:g'.status=.running:=by
    cases k' with
    |zero=>exact(hG' w hK).choose_spec.1
    |succ k''=>exact hG'.elim (fun z=>(z w hK).choose_spec.1) (·.1)
   exact stay gs' g' _ (k'+1+κ.R) hrt hsz hoth hself hrun2 hops (fun op hop y hy=>⟨(hr op hop y hy).2,(hr op hop y hy).1⟩) (fun op hop a=>evc_rel hes op hop a) (past_read (Kf:=Knows T0 0) C.core.past (uK _ _) hwr hlo hdf hops hr (hd0 T0) hl) (by rw[hqx];omega)
    (.far hrun2 hG' ((hd0 T0).trans hdf) (hwr.app fun op hop y hy _=>(hr op hop y hy).1))
 |way hway hdf hrel=>
  rename_i d rel
  have mute:∀(g':Goroutine) (es:Array Event) (n' d':Nat) (rel':Bool),(∀e∈es,(MemAct.ofEvent e).touch?=none∧(MemAct.ofEvent e).low B∧∀a,MemAct.ofEvent e≠.mark (.release a))→stepG P false gi w=.go g' w es→n'<q x.i→Way P g.s n' d' rel' g'→deafBehind d es=d'→(rel'=true→Rel g.s (T0++MemOp.ofEvents x.i gi.frame.fn gi.frame.place es) x.i)→
   DoStep P (g.fx P κ 0) 0 B T T0 gs w q sl x.i:=by
   intro g' es n' d' rel' hes hst hn' hw' hdb hre
   obtain⟨gs',hrt,hsz,hoth,hself⟩:=gogo g' w es hst hK (fun _ _ _ _ _=>rfl)
   have hmt:∀op∈MemOp.ofEvents x.i gi.frame.fn gi.frame.place es,op.act.touch?=none:=by
    intro op hop
    obtain⟨e,he,rfl⟩:=Go.Conc.mem_ofEvents hop
    exact(hes e he).1
   refine stay gs' g' _ n' hrt hsz hoth hself hw'.running (fun op hop=>by obtain⟨e,he,rfl⟩:=Go.Conc.mem_ofEvents hop;rfl) (fun op hop y hy=>by rw[hmt op hop] at hy;cases hy) (fun op hop a=>by obtain⟨e,he,rfl⟩:=Go.Conc.mem_ofEvents hop;exact(hes e he).2.2 a) ?_ hn' (.way hw' (by rw[Deaf_own,hdf,hdb]) hre)
   exact PastG.appMute (K:=Knows T0 0) C.core.past (uK _ _) (fun op hop=>by obtain⟨e,he,rfl⟩:=Go.Conc.mem_ofEvents hop;rfl) hmt (fun hm=>absurd hm hmem) (fun op hop=>by
    obtain⟨e,he,rfl⟩:=Go.Conc.mem_ofEvents hop
    exact(hes e he).2.1)
  cases hway with
  |calm hr1 hst hw'=>
   rename_i n g'
   exact mute g' #[] n d rel (by simp) (hst w _ (E.st hon)) (by rw[hqx];omega) hw' rfl (fun e=>by simpa[MemOp.ofEvents] using hrel e)
  |rel hr1 hst hw'=>
   rename_i n g'
   exact mute g' _ n 0 true (fun e he=>by simp only[List.mem_toArray,List.mem_cons,List.not_mem_nil,or_false] at he;subst he;exact⟨rfl,E.lowS hon,fun a=>by simp[mk,MemAct.ofEvent]⟩) (hst w) (by rw[hqx];omega) hw' rfl (fun _=>Rel.new hdf rfl)
  |deaf hr1 hst hw'=>
   rename_i n g'
   exact mute g' _ n 1 true (fun e he=>by simp only[List.mem_toArray,List.mem_cons,List.not_mem_nil,or_false] at he;subst he;exact⟨rfl,trivial,fun a=>by simp[mk,MemAct.ofEvent]⟩) (hst w) (by rw[hqx];omega) hw' rfl (fun _=>(hrel rfl).app fun op hop _=>by
    obtain⟨e,he,rfl⟩:=Go.Conc.mem_ofEvents hop
    simp at he
    subst he
    rfl)
  |add hr1 hadd=>
   rename_i n
   have hb:=busy_pos (A:=A) hx hAi
   have hst:=E.st hon
   obtain⟨k,hk⟩:∃k,g.cnt+busy A g.gone=k+1:=⟨g.cnt+busy A g.gone-1,by omega⟩
   rw[hk] at hst
   obtain⟨g',es,hes,hstp,hq,_⟩:=hadd w k 0 (by omega) (by have:=busy_le A g.gone;have:=gone_len (g:=g);have:=hg.few;omega) (by obtain⟨c,t,e⟩:=C.inv.fz hon;exact unfrozen e) (by rw[hst];simp)
   generalize hA':(fun j=>A j∧j≠x.i)=A'
   have hAx:¬A' x.i:=by subst hA';simp
   have hAo:∀j,j≠x.i→(A' j↔A j):=by subst hA';intro j hj;simp[hj]
   have hsn:Seen (hidOf g.hid) w (w.setCell (c5 g.s) (.int .u64 ((k:Int)*KK+((0:Nat):Int)))):=seen_set hs5 (Nat.le_refl _) _
   have hK':g.K (w.setCell (c5 g.s) (.int .u64 ((k:Int)*KK+((0:Nat):Int)))):=fun y hy=>by
    obtain⟨h1,h2⟩:=hK y hy
    exact⟨by rw[show c5 g.s=⟨g.s,5,none⟩ from rfl,cell_ne (.inr (by omega))];exact h1,by rw[show c5 g.s=⟨g.s,5,none⟩ from rfl,cell_ne (.inr (by omega))];exact h2⟩
   have hne:∀c,hidOf g.hid c=some 0→c≠(c5 g.s).block:=fun c hc e=>by rw[e] at hc;rw[show(c5 g.s).block=g.s from rfl,hs5] at hc;cases hc
   have hch:∀j s c,g.seat κ j=some s→s.has c→(w.setCell (c5 g.s) (.int .u64 ((k:Int)*KK+((0:Nat):Int)))).heap[c]?=w.heap[c]?:=fun j s c hj hc=>heap_ne (hne c (chan_hid hg hj hc))
   obtain⟨gs',hrt,hsz,hoth,hself⟩:=gogo g' _ es hstp hK' hch
   have hbl:=busy_less (gone_nodup hg) hx hAi hAx hAo
   have hD1:Deaf (T0++erased x.i (MemOp.ofEvents x.i gi.frame.fn gi.frame.place es)) x.i=1:=by rw[deaf_erased];exact hdf
   refine⟨gs',_,_,erased x.i (MemOp.ofEvents x.i gi.frame.fn gi.frame.place es),upd q x.i n,A',hrt,tr_erase hT hs5 (by rw[hdf];omega) hes,hsz,hoth 0 (fun e=>hx0 e.symm),⟨?_, ?_,fun z=>hx0 ?_,fun j gj hj hgj=> ?_, ?_⟩,sum_lt hlt (by rw[hqx];omega),hsn⟩
   ·refine core_put C.core hx0 hin hmem hAo hlt hsz hoth (fun op hop=>(erased_ops op hop).1) (fun _ gr e=> ?_) ?_ hK' hch
    ·rw[hself] at e
     obtain rfl:=Option.some.inj e
     exact⟨by omega,by rw[hD1];exact hq (.inr rfl)⟩
    ·exact PastG.appMute (K:=Knows T0 0) C.core.past (uK _ _) (fun op hop=>(erased_ops op hop).1) (fun op hop=>by rw[(erased_ops op hop).2];rfl) (fun hm=>absurd hm hmem) (fun op hop=>by rw[(erased_ops op hop).2];trivial)
   ·refine ex_put hg E hx hAo hoth (fun op hop=>(erased_ops op hop).1) (fun op hop y hy=>by rw[(erased_ops op hop).2] at hy;cases hy) (fun z=>absurd z hAx) (fun _=>(hrel rfl).app fun op hop _=>by rw[(erased_ops op hop).2];rfl) (fun _=> ?_) ?_ ?_
    ·rw[show c5 g.s=⟨g.s,5,none⟩ from rfl] at hst⊢
     rw[cell_set hst]
     have:g.cnt+busy A' g.gone=k:=by omega
     rw[this]
     simp
    ·have:=E.lim
     omega
    ·intro op hop a
     rw[(erased_ops op hop).2]
     simp
   ·subst hA';exact absurd z.1 C.noh
   ·by_cases e:j=x.i
    ·subst e;exact absurd hj hAx
    ·rw[hoth j e] at hgj;exact C.run j gj ((hAo j e).1 hj) hgj
   ·refine⟨fun _=> ?_,fun _=> ?_,fun y hy=> ?_,fun y hy hn=> ?_,fun y hy=> ?_⟩
    ·rw[show c5 g.s=⟨g.s,5,none⟩ from rfl,show c6 g.s=⟨g.s,6,none⟩ from rfl,cell_ne (.inr (by omega))];exact C.inv.sm hon
    ·obtain⟨c,t,e⟩:=C.inv.fz hon
     exact set_row (c5 g.s) e
    ·obtain⟨k2,e⟩:=C.inv.back y hy
     exact⟨k2,by rw[heap_ne (hne _ (hg.r y hy).2.2)];exact e⟩
    ·obtain⟨k2,e⟩:=C.inv.turn y hy hn
     exact⟨k2,by rw[heap_ne (hne _ (hg.r y hy).2.1)];exact e⟩
    ·obtain⟨k2,e⟩:=C.inv.shut y hy
     exact⟨k2,by rw[heap_ne (hne _ (hg.r y (gone_rs hy)).2.1)];exact e⟩
theorem Gh.Ok.fx (hκ:κ.Ok P) (hg:g.Ok h):(g.fx P κ h).Ok P h where
 hides:=hg.hides
 keepI:=fun _ _ hs hi=>hg.keepI hs hi
 wg:=fun _ hl=>hg.wg hl
 exMono:=fun B B' A T gs w q hB (E:g.Ex P κ B A T gs w q)=>⟨E.sub,fun x hx ha=>let⟨gr,h1,h2⟩:=E.each x hx ha;⟨gr,h1,h2.mono hB⟩,E.rest,E.st,E.lim,fun x hx=>Nat.lt_of_lt_of_le (E.low x hx) hB,fun e=>Nat.lt_of_lt_of_le (E.lowS e) hB,E.deaf0,E.norel⟩
 exHs:=fun B A T gs w w' q hs (E:g.Ex P κ B A T gs w q)=>⟨E.sub,E.each,E.rest,fun e=>hs_cell hs (hg.s e) (Nat.le_refl _) (E.st e),E.lim,E.low,E.lowS,E.deaf0,E.norel⟩
 exBy:=fun _ _ _ _ _ _ _ _ _ _ E hi hoth hq hU hm hw hd hr=>ex_by hg E hi hoth hq hU hm hw hd hr
 exStep:=fun B A T T0 gs w q sl i gi C hAi hi hT hh=>ex_step hκ hg C hAi hi hT hh
end
end Co
end Go.Proofs.Ytlngbdggehghgaa

namespace Go.Proofs.Ytlngbdggehghgaa
set_option linter.unusedSimpArgs false
set_option linter.unusedVariables false
namespace Co
open Go.Conc
open Go.ConcN (sumTo upd sumTo_upd upd_ne upd_same)
section
variable {P:Program} {Z:Goal} {h:Nat} {X:Fx} {κ:Kit} {g g':Gh} {B:Nat} {A:Nat→Prop} {T T0 U U0:Trace} {gs gs':Array Goroutine} {w w':World} {q:Nat→Nat}
theorem co_turn (hZ:Z.Ok P) (hX:X.Ok P h) {a:Goroutine} {v:World} (hrun:a.status=.running)
 (hst:∀(T T0:Trace) (gs:Array Goroutine) (w:World) (sl:Option (Nat×Nat)) (q:Nat→Nat),Tr X.H T T0→In Z.old P X h T0 gs w q v→gs[h]?=some a→
  ∃(gs':Array Goroutine) (w':World) (sl':Option (Nat×Nat)) (U T0':Trace) (q':Nat→Nat) (X':Fx) (h':Nat) (a':Goroutine) (v':World),runT P (crowd gs w sl) h=(.next (crowd gs' w' sl'),U)∧
   Tr X'.H (T++U) T0'∧In Z.old P X' h' T0' gs' w' q' v'∧gs'[h']?=some a'∧Co P Z h' X' a' v'):Co P Z h X a v:=by
 intro T1 T0 gs w sl q ht hi hg
 obtain⟨N,gs₁,w₀,w₁,sl₀,sl₁,U,U0,q₁,h1,h2,h3,h4,h5,h6⟩:=one_step (sl:=sl) hX hrun ht hi hg
 obtain⟨gs',w',sl',U',T0',q',X',h',a',v',k1,k2,k3,k4,k5⟩:=hst _ _ gs₁ w₁ sl₁ q₁ h4 h5 h3
 refine hZ.back (N+1) _ _ (U++(U'++#[])) T1 (h1.trans (RunsBy.head (h2.trans k1) (RunsBy.refl _))) ?_
 have e1:T1++(U++(U'++#[]))=T1++U++U':=by simp[Array.append_assoc]
 rw[e1]
 exact k5 _ _ gs' w' sl' q' k2 k3 k4
theorem core_main (C:Core P X h B A T0 gs w q) {X':Fx} (eK:X'.K=X.K) (eS:X'.Still=X.Still) (eI:X'.Inb=X.Inb) (eL:X'.Lo=X.Lo) (hlt:h<gs.size) (hsz:gs'.size=gs.size) (hoth:∀j,j≠h→gs'[j]?=gs[j]?) (hK:X.K w')
 (hch:∀j s c,X.Inb j=some s→s.has c→w'.heap[c]?=w.heap[c]?) (hU:∀op∈U0,op.g=h) (hm:∀op∈U0,op.act.touch?=none) (hl:∀op∈U0,op.act.low B) (hM:∀i,i≠h→(X'.Mem i↔X.Mem i)) (hd:X'.Mem h→Deaf (T0++U0) h=0) (hIh:∀s,X.Inb h=some s→X'.Mem h) (hS:∀l,X.Still l→l.isMemory=true):
 Core P X' h B A (T0++U0) gs' w' q:=by
 have hp1:PastG X.Still (fun i=>X.Mem i∧i≠h) X.Lo B (Knows (T0++U0) h) (T0++U0):=
  PastG.appMute (K:=Knows T0 h) (PastG.fewer C.past fun g hg=>hg.1) (fun i hk=>hk.app U0) hU hm (fun hh=>absurd rfl hh.2) hl
 have hp2:PastG X.Still X'.Mem X.Lo B (Knows (T0++U0) h) (T0++U0):=by
  refine⟨hp1.clean,hp1.known,fun i a ha hw hs j hj=> ?_,fun j hj=> ?_,hp1.seen⟩
  ·by_cases e:j=h
   ·subst e
    rcases hp1.known i a ha (hS _ hs) with hk|⟨e,_⟩
    ·exact hk
    ·rw[hw] at e;cases e
   ·exact hp1.wrote i a ha hw hs j ⟨(hM j e).1 hj,e⟩
  ·by_cases e:j=h
   ·subst e;exact hd hj
   ·exact hp1.hears j ⟨(hM j e).1 hj,e⟩
 refine⟨fun x y hx hy=> ?_,fun j s c _ e hc=> ?_,fun i s e=>C.wf i s (by rw[←eI];exact e),fun _ _ hx=>hx.elim,fun i i' s s' c e e'=>C.inj i i' s s' c (by rw[←eI];exact e) (by rw[←eI];exact e'),fun j hj=> ?_,fun i s e=> ?_,fun i hi=> ?_,fun i s hi e=> ?_, ?_, ?_⟩
 ·have hxh:x≠h:=fun e=>hx (.inl e)
  rw[hoth x hxh] at hy
  have hi:=C.idle x y hx hy
  rw[eK,eS,eI]
  cases es:X.Inb x with
  |none=>rw[es] at hi;exact⟨hi.1,by rw[Deaf_other T0 (fun z=>hxh z.symm) U0 hU];exact hi.2⟩
  |some s=>rw[es] at hi;exact hi
 ·rw[eI] at e
  rw[hch j s c e hc];exact C.chans j s c id e hc
 ·rw[Deaf_other T0 (g':=h) (by omega) U0 hU]
  exact C.above j (by omega)
 ·rw[eI] at e
  have hm:=C.mem i s e
  refine⟨?_,hm.2⟩
  by_cases eh:i=h
  ·subst eh;exact hIh s e
  ·exact(hM i eh).2 hm.1
 ·by_cases eh:i=h
  ·exact .inr (.inl eh)
  ·rw[eI];exact C.nomem i ((hM i eh).1 hi)
 ·rw[eL];rw[eI] at e;exact C.lo i s hi e
 ·rw[eS,eL];exact hp2
 ·rw[eK];exact hK
def Gh.set (g:Gh) (c l:Nat) (e:Bool):Gh:={g with cnt:=c,lim:=l,ear:=e}
theorem Gh.Ok.set (hg:g.Ok 0) (c l:Nat) (e:Bool) (hc:c+g.off≤500):(g.set c l e).Ok 0:=⟨hg.s,hg.r,hg.up,hg.pos,hg.inj,hg.off,fun _=>rfl,hg.chn,hg.num,hc,hg.m0⟩
theorem Doer.recast {x:Wk} {n:Nat} {gr:Goroutine} (hd:Doer P κ g B T x n gr) (eK:g'.K=g.K) (eS:g'.Still=g.Still) (es:g'.s=g.s):Doer P κ g' B T x n gr:=by
 cases hd with
 |far h1 h2 h3 h4=>exact .far h1 (by rw[eK,eS,es];exact h2) h3 (by rw[eS];exact h4)
 |way h1 h2 h3=>exact .way (by rw[es];exact h1) h2 (by rw[es];exact h3)
theorem keep_set (hg:g.Ok h) (hon:g.on=true) (y:Value):(g.K w→g.K (w.setCell (c5 g.s) y))∧(∀c,hidOf g.hid c=some 0→(w.setCell (c5 g.s) y).heap[c]?=w.heap[c]?)∧(g.I w→g.I (w.setCell (c5 g.s) y)):=by
 have hs5:=hg.s hon
 have hne:∀c,hidOf g.hid c=some 0→(w.setCell (c5 g.s) y).heap[c]?=w.heap[c]?:=fun c hc=>heap_ne fun e=>by rw[e,show(c5 g.s).block=g.s from rfl,hs5] at hc;cases hc
 refine⟨fun hk x hx=> ?_,hne,fun hi=>⟨fun _=> ?_,fun _=> ?_,fun x hx=> ?_,fun x hx hn=> ?_,fun x hx=> ?_⟩⟩
 ·rw[show c5 g.s=⟨g.s,5,none⟩ from rfl,cell_ne (.inr (by omega)),cell_ne (.inr (by omega))];exact hk x hx
 ·rw[show c5 g.s=⟨g.s,5,none⟩ from rfl,show c6 g.s=⟨g.s,6,none⟩ from rfl,cell_ne (.inr (by omega))];exact hi.sm hon
 ·obtain⟨c,t,e⟩:=hi.fz hon
  exact set_row (c5 g.s) e
 ·rw[hne _ (hg.r x hx).2.2];exact hi.back x hx
 ·rw[hne _ (hg.r x hx).2.1];exact hi.turn x hx hn
 ·rw[hne _ (hg.r x (gone_rs hx)).2.1];exact hi.shut x hx
theorem still_mem {l:Loc} (hl:g.Still l):l.isMemory=true:=by
 obtain⟨x,_,rfl|rfl⟩:=hl<;>rfl
theorem comp_main (hg:g.Ok 0) (hm0:g.m0=none) {c l:Nat} {e:Bool} (C:CompA P (g.fx P κ 0) 0 B A T0 gs w q) {a a':Goroutine} {es:Array Event} (ha:gs[0]?=some a) (hrun:a.status=.running)
 (hst:stepG P true a w=.go a' w' es) (hw':w'=w∨(g.on=true∧∃y,w'=w.setCell (c5 g.s) y)) (hU:∀op∈U0,op.g=0) (hm:∀op∈U0,op.act.touch?=none) (hl:∀op∈U0,op.act.low B) (hr:∀op∈U0,∀ad,op.act≠.mark (.release ad))
 (hd:Deaf (T0++U0) 0=if e then 0 else 1) (h5:g.on=true→w'.cell? (c5 g.s)=some (.int .u64 (((c+busy A g.gone:Nat):Int)*KK))) (hlim:busy A g.gone≤l) (sl:Option (Nat×Nat)):
 ∃gs',runT P (crowd gs w sl) 0=(.next (crowd gs' w' sl),MemOp.ofEvents 0 a.frame.fn a.frame.place es)∧gs'[0]?=some a'∧gs'.size=gs.size∧CompA P ((g.set c l e).fx P κ 0) 0 B A (T0++U0) gs' w' q∧Seen (hidOf g.hid) w w':=by
 have E:g.Ex P κ B A T0 gs w q:=C.ex
 have hK:g.K w:=C.core.keep
 have hpre:g.K w'∧(∀c,hidOf g.hid c=some 0→w'.heap[c]?=w.heap[c]?)∧g.I w'∧Seen (hidOf g.hid) w w':=by
  rcases hw' with rfl|⟨hon,y,rfl⟩
  ·exact⟨hK,fun _ _=>rfl,C.inv,.refl _⟩
  ·obtain⟨k1,k2,k3⟩:=keep_set (w:=w) hg hon y
   exact⟨k1 hK,k2,k3 C.inv,seen_set (hg.s hon) (Nat.le_refl _) y⟩
 obtain⟨hK',hch0,hI',hseen⟩:=hpre
 have hch:∀j s c,g.seat κ j=some s→s.has c→w'.heap[c]?=w.heap[c]?:=fun j s c hj hc=>hch0 c (chan_hid hg hj hc)
 have hlt:0<gs.size:=(Array.getElem?_eq_some_iff.1 ha).1
 have hoth:=others_stand (g:=a) (g':=a') C hK' hch (fun gh e=>by rw[ha] at e;obtain rfl:=Option.some.inj e;exact hrun) (i:=0)
 have hout:((gs.map (woken P a a' w')).setIfInBounds 0 a').size=gs.size:=by simp
 generalize hgs:(gs.map (woken P a a' w')).setIfInBounds 0 a'=gs' at hoth hout
 have hself:gs'[0]?=some a':=by subst hgs;exact Array.getElem?_setIfInBounds_self_of_lt (by simpa using hlt)
 refine⟨gs',by rw[←hgs];exact runT_crowd_go (sl:=sl) ha (by simpa using hst),hself,hout,⟨?_, ?_,C.noh,fun i gi hi hgi=> ?_, ?_⟩,hseen⟩
 ·refine core_main C.core (X':=(g.set c l e).fx P κ 0) rfl rfl rfl rfl hlt hout hoth hK' hch hU hm hl (fun i hi=> ?_) (fun hM=> ?_) (fun s hs=> ?_) fun l hl=>still_mem hl
  ·constructor
   ·rintro(⟨e0,_⟩|hx)
    ·exact absurd e0 hi
    ·exact .inr hx
   ·rintro(⟨e0,_⟩|hx)
    ·exact absurd e0 hi
    ·exact .inr hx
  ·rcases hM with⟨_,he⟩|⟨x,hx,hx0⟩
   ·rw[hd]
    have he':e=true:=he
    simp[he']
   ·exact absurd hx0 (hg.pos x (sit_rs hx))
  ·have:g.seat κ 0=some s:=hs
   unfold Gh.seat at this
   rw[if_pos rfl,hm0] at this
   cases this
 ·refine⟨E.sub,fun x hx hax=> ?_,fun x hx hax=> ?_,h5,hlim,E.low,E.lowS,fun he=> ?_,norel_app E.norel hr⟩
  ·have hx0:x.i≠0:=hg.pos x (gone_rs (g:=g) hx)
   obtain⟨gr,h1,h2⟩:=E.each x hx hax
   exact⟨gr,by rw[hoth _ hx0];exact h1,(h2.app hx0 hU fun op hop y hy=>by rw[hm op hop] at hy;cases hy).recast rfl rfl rfl⟩
  ·have hx0:x.i≠0:=hg.pos x (gone_rs (g:=g) hx)
   exact(E.rest x hx hax).app fun op hop eg=>hm op hop
  ·rw[hd]
   have he':e=false:=he
   simp[he']
 ·have hi0:i≠0:=fun e0=>C.noh (e0▸hi)
  rw[hoth i hi0] at hgi
  exact C.run i gi hi hgi
 ·exact⟨hI'.sm,hI'.fz,hI'.back,hI'.turn,hI'.shut⟩
def Grp (s:Nat) (es:Array Event):Prop:=∀e∈es,∃j,(j=5∨j=6)∧((∃wr,e=⟨.cell ⟨s,j,none⟩,wr,true⟩)∨e=mk (.read ⟨s,j,none⟩)∨e=mk (.write ⟨s,j,none⟩))
theorem touch_grp {s:Nat} {es:Array Event} (hes:Grp s es) {i:Nat} {fn:FuncId} {pos:String}:∀op∈MemOp.ofEvents i fn pos es,op.g=i∧∃j x,(j=5∨j=6)∧op.act.touch?=some x∧x.loc=.cell ⟨s,j,none⟩∧x.kind≠.plain:=by
 intro op hop
 obtain⟨e,he,rfl⟩:=Go.Conc.mem_ofEvents hop
 obtain⟨j,hj,⟨wr,rfl⟩|rfl|rfl⟩:=hes e he
 ·exact⟨rfl,j,⟨.cell ⟨s,j,none⟩,wr,.atomic⟩,hj,by cases wr<;>rfl,rfl,by simp⟩
 ·exact⟨rfl,j,⟨.cell ⟨s,j,none⟩,false,.said⟩,hj,rfl,rfl,by simp⟩
 ·exact⟨rfl,j,⟨.cell ⟨s,j,none⟩,true,.said⟩,hj,rfl,rfl,by simp⟩
theorem tr_group {H:Nat→Option Nat} (hT:Tr H T T0) {s:Nat} (hs:H s=some 5) {es:Array Event} (hes:Grp s es) {fn:FuncId} {pos:String}:
 Tr H (T++MemOp.ofEvents 0 fn pos es) (T0++erased 0 (MemOp.ofEvents 0 fn pos es)):=by
 refine hT.app (by simp[erased]) fun k op op0 h1 h2=> ?_
 obtain⟨eg,j,x,hj,ht,hl,hk⟩:=touch_grp hes op (Array.mem_of_getElem? h1)
 obtain⟨e0,e1⟩:=erased_ops op0 (Array.mem_of_getElem? h2)
 exact⟨by rw[e0,eg],.inr ⟨e1,x,ht,⟨_,hl,hs,by rcases hj with rfl|rfl<;>simp⟩,.inl ⟨eg,hk⟩⟩⟩
theorem co_group (hZ:Z.Ok P) (hκ:κ.Ok P) (hg:g.Ok 0) (hm0:g.m0=none) (hon:g.on=true) {a:Goroutine} {v:World} (hrun:a.status=.running)
 (hst:∀(w:World) (k:Nat),k≤g.lim→w.cell? (c5 g.s)=some (.int .u64 (((g.cnt+k:Nat):Int)*KK))→w.cell? (c6 g.s)=some (.int .u32 0)→w.frozen? (c5 g.s)=false→
  ∃a' w' es c l,k≤l∧stepG P true a w=.go a' w' es∧Grp g.s es∧(w'=w∨∃y,w'=w.setCell (c5 g.s) y)∧w'.cell? (c5 g.s)=some (.int .u64 (((c+k:Nat):Int)*KK))∧Co P Z 0 ((g.set c l g.ear).fx P κ 0) a' v):Co P Z 0 (g.fx P κ 0) a v:=by
 refine co_turn hZ (hg.fx hκ) hrun fun T T0 gs w sl q hT hi ha=> ?_
 obtain⟨A,C⟩:=hi.comp
 have E:g.Ex P κ w.heap.size A T0 gs w q:=C.ex
 have hfr:w.frozen? (c5 g.s)=false:=by
  unfold World.frozen?
  rcases hi.vis.kinds g.s 5 (hg.s hon) with⟨c,t,e⟩|⟨b1,b2,b3,b4,b5,b6,e⟩|⟨o,e,hp⟩
  ·simp[c5,e]
  ·simp[c5,e]
  ·simp only[c5,e]
   cases o<;>first|rfl|cases hp
 obtain⟨a',w',es,c,l,h1,h2,h3,h4,h5,h6⟩:=hst w (busy A g.gone) E.lim (E.st hon) (C.inv.sm hon) hfr
 have hdeaf:Deaf T0 0=if g.ear then 0 else 1:=by
  cases he:g.ear with
  |true=>simpa using C.core.past.hears 0 (.inl ⟨rfl,he⟩)
  |false=>simpa using E.deaf0 he
 obtain⟨gs',k1,k2,k3,k4,k5⟩:=comp_main (U0:=erased 0 (MemOp.ofEvents 0 a.frame.fn a.frame.place es)) (c:=c) (l:=l) (e:=g.ear) hg hm0 C ha hrun h2 (h4.imp id fun hy=>⟨hon,hy⟩) (fun op hop=>(erased_ops op hop).1) (fun op hop=>by rw[(erased_ops op hop).2];rfl)
  (fun op hop=>by rw[(erased_ops op hop).2];trivial) (fun op hop ad=>by rw[(erased_ops op hop).2];simp) (by rw[deaf_erased];exact hdeaf) (fun _=>h5) h1 sl
 exact⟨gs',w',sl,_,_,q,(g.set c l g.ear).fx P κ 0,0,a',v,k1,tr_group hT (hg.s hon) h3,⟨⟨A,by rw[k5.size];exact k4⟩,k3.trans hi.n,k5.kinds v hi.vis,hi.nv,hi.size,hi.old.seen k5⟩,k2,h6⟩
theorem co_ear (hZ:Z.Ok P) (hκ:κ.Ok P) (hg:g.Ok 0) (hm0:g.m0=none) (hon:g.on=true) {a a':Goroutine} {v:World} {e:Bool} (hrun:a.status=.running) (he:g.ear= !e)
 (hst:∀w,stepG P true a w=.go a' w #[mk (if e then .enable else .disable)]) (hc:Co P Z 0 ((g.set g.cnt g.lim e).fx P κ 0) a' v):Co P Z 0 (g.fx P κ 0) a v:=by
 refine co_turn hZ (hg.fx hκ) hrun fun T T0 gs w sl q hT hi ha=> ?_
 obtain⟨A,C⟩:=hi.comp
 have E:g.Ex P κ w.heap.size A T0 gs w q:=C.ex
 have hdeaf:Deaf T0 0=if g.ear then 0 else 1:=by
  cases he:g.ear with
  |true=>simpa using C.core.past.hears 0 (.inl ⟨rfl,he⟩)
  |false=>simpa using E.deaf0 he
 have hops:∀op∈MemOp.ofEvents 0 a.frame.fn a.frame.place #[mk (if e then .enable else .disable)],op.g=0∧op.act=.mark (if e then .enable else .disable):=by
  intro op hop
  obtain⟨ev,hev,rfl⟩:=Go.Conc.mem_ofEvents hop
  simp only[List.mem_toArray,List.mem_cons,List.not_mem_nil,or_false] at hev
  subst hev
  cases e<;>exact⟨rfl,rfl⟩
 obtain⟨gs',k1,k2,k3,k4,k5⟩:=comp_main (U0:=MemOp.ofEvents 0 a.frame.fn a.frame.place #[mk (if e then .enable else .disable)]) (c:=g.cnt) (l:=g.lim) (e:=e) hg hm0 C ha hrun (hst w) (.inl rfl) (fun op hop=>(hops op hop).1) (fun op hop=>by rw[(hops op hop).2];cases e<;>rfl)
  (fun op hop=>by rw[(hops op hop).2];cases e<;>trivial) (fun op hop ad=>by rw[(hops op hop).2];cases e<;>simp) (by
   rw[Deaf_own,hdeaf,he]
   cases e<;>rfl) E.st E.lim sl
 have hTr:Tr (hidOf g.hid) (T++MemOp.ofEvents 0 a.frame.fn a.frame.place #[mk (if e then .enable else .disable)]) (T0++MemOp.ofEvents 0 a.frame.fn a.frame.place #[mk (if e then .enable else .disable)]):=hT.plain fun op hop x hx=>by
  rw[(hops op hop).2] at hx
  cases e<;>cases hx
 exact⟨gs',w,sl,_,_,q,(g.set g.cnt g.lim e).fx P κ 0,0,a',v,k1,hTr,⟨⟨A,k4⟩,k3.trans hi.n,hi.vis,hi.nv,hi.size,hi.old⟩,k2,hc⟩
end
end Co
end Go.Proofs.Ytlngbdggehghgaa

namespace Go.Proofs.Ytlngbdggehghgaa
set_option linter.unusedSimpArgs false
set_option linter.unusedVariables false
namespace Co
open Go.Conc
open Go.ConcN (sumTo upd sumTo_upd upd_ne upd_same)
section
variable {P:Program} {Z:Goal} {h:Nat} {X:Fx} {κ:Kit} {g g':Gh} {B:Nat} {A A':Nat→Prop} {T T0 U U0:Trace} {gs gs':Array Goroutine} {w w':World} {q q':Nat→Nat}
theorem core_app (C:Core P X h B A T0 gs w q) (hsz:gs'.size=gs.size) (hlt:h<gs.size) (hoth:∀j,¬(j=h∨A j)→gs'[j]?=gs[j]?) (hU:∀op∈U,op.g=h) (hq:∀j,¬(j=h∨A j)→q' j=q j)
 (hp:PastG X.Still X.Mem X.Lo B (Knows (T0++U) h) (T0++U)):Core P X h B A (T0++U) gs' w q':=by
 refine⟨fun x y hx hy=> ?_,C.chans,C.wf,fun _ _ hx=>hx.elim,C.inj,fun j hj=> ?_,C.mem,C.nomem,C.lo,hp,C.keep⟩
 ·rw[hoth x hx] at hy
  rw[hq x hx]
  have hi:=C.idle x y hx hy
  cases es:X.Inb x with
  |none=>rw[es] at hi;exact⟨hi.1,by rw[Deaf_other T0 (fun z=>hx (.inl z.symm)) U hU];exact hi.2⟩
  |some s=>rw[es] at hi;exact hi
 ·rw[Deaf_other T0 (g':=h) (by omega) U hU]
  exact C.above j (by omega)
def Gh.shut1 (g:Gh):Gh:={g with off:=g.off+1,cnt:=g.cnt-1,lim:=g.lim+1}
variable {x:Wk}
theorem sit_cons (hg:g.Ok h) (hup:g.up=g.rs.length) (hx:g.rs[g.off]?=some x):g.sit=x::g.shut1.sit∧g.shut1.gone=g.gone++[x]:=by
 obtain⟨hlt,hget⟩:=List.getElem?_eq_some_iff.1 hx
 constructor
 ·unfold Gh.sit Gh.shut1
  simp only
  rw[hup,List.take_length,List.drop_eq_getElem_cons hlt,hget]
 ·unfold Gh.gone Gh.shut1
  simp only
  rw[List.take_add_one,hx]
  rfl
theorem Gh.Ok.shut1 (hg:g.Ok 0) (hon:g.on=true) (hup:g.up=g.rs.length) (hcnt:0<g.cnt):g.shut1.Ok 0:=
 ⟨hg.s,hg.r,hg.up,hg.pos,hg.inj,.inr ⟨hon,rfl,hup⟩,hg.ear,hg.chn,hg.num,by have:=hg.few;show g.cnt-1+(g.off+1)≤500;omega,hg.m0⟩
theorem seat_shut (hg:g.Ok 0) (hup:g.up=g.rs.length) (hx:g.rs[g.off]?=some x) (hon:g.on=true) (hcnt:0<g.cnt):g.shut1.seat κ x.i=none∧g.seat κ x.i=some (κ.seat g.s x)∧∀j,j≠x.i→g.shut1.seat κ j=g.seat κ j:=by
 obtain⟨e1,e2⟩:=sit_cons hg hup hx
 have hx0:x.i≠0:=hg.pos x (List.mem_of_getElem? hx)
 refine⟨seat_gone (hg.shut1 hon hup hcnt) (by rw[e2];simp), ?_,fun j hj=> ?_⟩
 ·unfold Gh.seat
  rw[if_neg hx0,e1]
  simp
 ·unfold Gh.seat
  by_cases e:j=0
  ·rw[if_pos e,if_pos e];rfl
  ·have:(x.i==j)=false:=by simpa using fun z=>hj (Eq.symm z)
   rw[if_neg e,if_neg e,e1,List.find?_cons,this]
   rfl
theorem co_shut (hZ:Z.Ok P) (hκ:κ.Ok P) (hg:g.Ok 0) (hm0:g.m0=none) (hon:g.on=true) (hear:g.ear=true) (hup:g.up=g.rs.length) (hx:g.rs[g.off]?=some x) (hcnt:0<g.cnt) {a a':Goroutine} {v:World} (hrun:a.status=.running) (hrun':a'.status=.running) (hwake:mayWake P a=true)
 (hst:∀(w:World) (k:Nat),w.heap[x.ct]?=some (.chan 0 #[] false k k false)→stepG P true a w=.go a' (w.setChan x.ct 0 #[] true k k false) (closeEvents x.ct)) (hc:Co P Z 0 (g.shut1.fx P κ 0) a' v):Co P Z 0 (g.fx P κ 0) a v:=by
 refine co_turn hZ (hg.fx hκ) hrun fun T T0 gs w sl q hT hi ha=> ?_
 obtain⟨A,C⟩:=hi.comp
 have E:g.Ex P κ w.heap.size A T0 gs w q:=C.ex
 have hxr:x∈g.rs:=List.mem_of_getElem? hx
 obtain⟨e1,e2⟩:=sit_cons hg hup hx
 obtain⟨n1,n2,n3⟩:=seat_shut (κ:=κ) hg hup hx hon hcnt
 have hg':=hg.shut1 hon hup hcnt
 have hxs:x∈g.sit:=by rw[e1];simp
 have hx0:x.i≠0:=hg.pos x hxr
 have hxg:∀y∈g.gone,y.i≠x.i:=fun y hy=>gone_sit hg hy hxs
 have hxn:x∉g.gone:=fun hh=>hxg x hh rfl
 have hAx:¬A x.i:=fun hh=>by obtain⟨y,hy,e⟩:=E.sub _ hh;exact hxg y hy e
 have hr:=hg.r x hxr
 obtain⟨k,hk⟩:=C.inv.turn x hxr hxn
 have hstp:=hst w k hk
 generalize hW:w.setChan x.ct 0 #[] true k k false=w' at hstp
 have hself:w'.heap[x.ct]?=some (.chan 0 #[] true k k false):=by subst hW;exact heap_setChan_self w hk _ _ _ _ _ _
 have hne:∀c,c≠x.ct→w'.heap[c]?=w.heap[c]?:=fun c hc=>by subst hW;exact heap_setChan_ne w _ _ _ _ _ _ (Ne.symm hc)
 have hcellr:∀r n j (y:Value),hidOf g.hid r=some (n+1)→w.cell? ⟨r,j,none⟩=some y→w'.cell? ⟨r,j,none⟩=some y:=by
  intro r n j y hr' hy
  have:r≠x.ct:=fun e=>by rw[e,hr.2.1] at hr';cases hr'
  unfold World.cell? at hy⊢
  rw[hne r this]
  exact hy
 have hseen:Seen (hidOf g.hid) w w':=by
  have hh:vis (hidOf g.hid) w'.heap=vis (hidOf g.hid) w.heap:=by
   apply Array.ext_getElem?
   intro i
   rw[vis_get,vis_get]
   by_cases e:i=x.ct
   ·subst e;rw[hself,hk,hr.2.1];rfl
   ·rw[hne i e]
  refine⟨hh,by subst hW;rfl,by subst hW;rfl,by subst hW;rfl,fun v hv=>⟨hv.heap.trans hh.symm,by subst hW;exact hv.os,by subst hW;exact hv.output,fun r n e=> ?_⟩,fun r o e p=>by
   by_cases er:r=x.ct
   ·subst er;rw[hk] at e;cases e;cases p
   ·rw[hne r er];exact e⟩
  by_cases er:r=x.ct
  ·subst er;exact .inr (.inl ⟨_,_,_,_,_,_,hself⟩)
  ·rw[hne r er];exact hv.kinds r n e
 have hK':g.K w':=fun y hy=>⟨hcellr _ 10 _ _ (hg.r y hy).1 (C.core.keep y hy).1,hcellr _ 10 _ _ (hg.r y hy).1 (C.core.keep y hy).2⟩
 have hct:∀y∈g.rs,y.ct=x.ct→y=x:=by
  intro y hy e
  have h1:=(List.nodup_append.1 hg.chn).1
  have:∀(l:List Wk),(l.map (·.ct)).Nodup→y∈l→x∈l→y=x:=by
   intro l
   induction l with
   |nil=>intro _ hh;cases hh
   |cons b l ih=>
    intro hn hy hx
    simp only[List.map_cons,List.nodup_cons] at hn
    rcases List.mem_cons.1 hy with z1|z1<;>rcases List.mem_cons.1 hx with z2|z2
    ·rw[z1,z2]
    ·exact absurd (List.mem_map.2 ⟨x,z2,by rw[←e,z1]⟩) hn.1
    ·exact absurd (List.mem_map.2 ⟨y,z1,by rw[e,z2]⟩) hn.1
    ·exact ih hn.2 z1 z2
  exact this _ h1 hy hxr
 have hcb:∀y∈g.rs,y.cb≠x.ct:=fun y hy e=>(List.nodup_append.1 hg.chn).2.2 x.ct (List.mem_map.2 ⟨x,hxr,rfl⟩) y.cb (List.mem_map.2 ⟨y,hy,rfl⟩) e.symm
 have hch':∀j s c,g.shut1.seat κ j=some s→s.has c→w'.heap[c]?=w.heap[c]?:=by
  intro j s c hj hc
  refine hne c fun e=> ?_
  subst e
  have hjx:j≠x.i:=fun z=>by rw[z,n1] at hj;cases hj
  rw[n3 j hjx] at hj
  exact hjx (C.core.inj j x.i s _ x.ct hj n2 hc (by unfold Kit.seat;rw[Seat.one_has]))
 have hlt:0<gs.size:=(Array.getElem?_eq_some_iff.1 ha).1
 have hxlt:x.i<gs.size:=by rw[hi.n];exact hg.num x (by rw[hup,List.take_length];exact hxr)
 obtain⟨gx,hgx⟩:∃gx,gs[x.i]?=some gx:=⟨gs[x.i],Array.getElem?_eq_getElem hxlt⟩
 have hsits:Sits P false g.K g.Still w.heap.size (κ.seat g.s x) (q x.i) gx:=by
  have:=C.core.idle x.i gx (fun z=>z.elim hx0 hAx) hgx
  rw[show(g.fx P κ 0).Inb x.i=some (κ.seat g.s x) from n2] at this
  have h0:(x.i==0)=false:=by simp[hx0]
  simp only[Idle,h0] at this
  exact this
 have hwk:∀y,woken P a a' w' y=y.again w':=by intro y;simp[woken,hwake,hrun']
 have hmem:(g.fx P κ 0).Mem x.i:=.inr ⟨x,hxs,rfl⟩
 have hd0:Deaf T0 x.i=0:=C.core.past.hears _ hmem
 have hwr:Wrote g.Still T0 x.i:=fun j b hb hw hs=>C.core.past.wrote j b hb hw hs _ hmem
 obtain⟨nx,hnx⟩:∃nx,Doer P κ g w.heap.size T0 x nx (gx.again w'):=by
  rcases hsits with⟨k2,w₀,_,hG⟩|⟨_,g₀,g₂,rfl,hat⟩
  ·have hr2:gx.status=.running:=(Sits.status C.core.keep (.inl ⟨k2,w₀,rfl,hG⟩)).elim (·.1) (fun z=>by omega)
   rw[again_of_running (.inl hr2)]
   exact⟨_,.far hr2 hG hd0 hwr⟩
  ·refine⟨0+1+κ.R, ?_⟩
   have e3:(parked g₂ (κ.seat g.s x).cases (κ.seat g.s x).shape).again w'={parked g₂ (κ.seat g.s x).cases (κ.seat g.s x).shape with status:=.running}:=
    again_parked_shut (k:=rcase x.ct κ.zt) (c:=x.ct) rfl hself
   rw[e3]
   exact .far (w₀:=w') rfl (fun _ _=>⟨g₂,hat.tries _ _⟩) hd0 hwr
 have hdr:∀{n gr},Doer P κ g w.heap.size T0 x n gr→gr.status=.running:=by
  intro n gr hd
  cases hd with
  |far h1=>exact h1
  |way h1=>exact h1.running
 generalize hA':(fun j=>A j∨j=x.i)=A'
 have hA'o:∀j,j≠x.i→(A' j↔A j):=by subst hA';intro j hj;simp[hj]
 have hA'x:A' x.i:=by subst hA';simp
 have C1:Core P (g.shut1.fx P κ 0) 0 w.heap.size A' T0 gs w' q:=by
  refine⟨fun j y hj hy=> ?_,fun j s c _ e hc=> ?_,fun j s e=> ?_,fun _ _ hx=>hx.elim,fun i i' s s' c e e'=> ?_,C.core.above,fun j s e=> ?_,fun j hj=> ?_,fun j s hj e=> ?_, ?_,hK'⟩
  ·have hjx:j≠x.i:=fun e=>hj (.inr (e▸hA'x))
   have hid:=C.core.idle j y (fun z=>hj (z.imp id (hA'o j hjx).2)) hy
   rw[show(g.shut1.fx P κ 0).Inb j=(g.fx P κ 0).Inb j from n3 j hjx]
   exact hid
  ·have hjx:j≠x.i:=fun z=>by rw[z] at e;rw[show(g.shut1.fx P κ 0).Inb x.i=none from n1] at e;cases e
   have e0:g.seat κ j=some s:=by rw[←n3 j hjx];exact e
   rw[hch' j s c e hc]
   exact C.core.chans j s c id e0 hc
  ·have hjx:j≠x.i:=fun z=>by rw[z] at e;rw[show(g.shut1.fx P κ 0).Inb x.i=none from n1] at e;cases e
   exact C.core.wf j s ((n3 j hjx).symm.trans e)
  ·have hix:i≠x.i:=fun z=>by rw[z] at e;rw[show(g.shut1.fx P κ 0).Inb x.i=none from n1] at e;cases e
   have hix':i'≠x.i:=fun z=>by rw[z] at e';rw[show(g.shut1.fx P κ 0).Inb x.i=none from n1] at e';cases e'
   exact C.core.inj i i' s s' c ((n3 i hix).symm.trans e) ((n3 i' hix').symm.trans e')
  ·have hjx:j≠x.i:=fun z=>by rw[z] at e;rw[show(g.shut1.fx P κ 0).Inb x.i=none from n1] at e;cases e
   have e0:g.seat κ j=some s:=by rw[←n3 j hjx];exact e
   refine⟨?_,(C.core.mem j s e0).2⟩
   rcases seat_cases e with⟨ej,em⟩|⟨y,hy,ey,_⟩
   ·exact .inl ⟨ej,hear⟩
   ·exact .inr ⟨y,hy,ey⟩
  ·rcases hj with⟨e,_⟩|⟨y,hy,e⟩
   ·exact .inr (.inl e)
   ·have hy':y∈g.sit:=by rw[e1];exact List.mem_cons_of_mem _ hy
    have hjx:j≠x.i:=fun z=>gone_sit hg' (show x∈g.shut1.gone by rw[e2];simp) hy (by rw[e,z])
    rcases C.core.nomem j (.inr ⟨y,hy',e⟩) with z|z|z
    ·exact .inl (by rw[show(g.shut1.fx P κ 0).Inb j=(g.fx P κ 0).Inb j from n3 j hjx];exact z)
    ·exact .inr (.inl z)
    ·exact .inr (.inr ((hA'o j hjx).2 z))
  ·exact⟨fun z=>hj (.inl z),.inl (by rw[show g.shut1.seat κ j=some s from e];rfl)⟩
  ·refine PastG.loosen (PastG.fewer C.core.past fun j hj=> ?_) fun j hj=> ?_
   ·rcases hj with⟨e,he⟩|⟨y,hy,e⟩
    ·exact .inl ⟨e,he⟩
    ·exact .inr ⟨y,by rw[e1];exact List.mem_cons_of_mem _ hy,e⟩
   ·refine⟨hj.1, ?_⟩
    by_cases ej:j=x.i
    ·exact .inr ⟨x,by rw[e2];simp,ej.symm⟩
    ·rcases hj.2 with z|⟨y,hy,e⟩
     ·exact .inl (by rw[n3 j ej];exact z)
     ·exact .inr ⟨y,by rw[e2];exact List.mem_append_left _ hy,e⟩
 have hoth:∀j,j≠0→j≠x.i→((gs.map (woken P a a' w')).setIfInBounds 0 a')[j]?=gs[j]?:=by
  intro j hj hjx
  rw[Array.getElem?_setIfInBounds_ne (fun e=>hj e.symm),Array.getElem?_map]
  cases e:gs[j]? with
  |none=>rfl
  |some y=>
   have:woken P a a' w' y=y:=woken_of_again (by
    by_cases ea:A j
    ·exact again_of_running (.inl (C.run j y ea e)) _
    ·exact C1.fixed (fun z=>z.elim hj fun z=>ea ((hA'o j hjx).1 z)) e)
   simp[this]
 have hothx:((gs.map (woken P a a' w')).setIfInBounds 0 a')[x.i]?=some (gx.again w'):=by
  rw[Array.getElem?_setIfInBounds_ne (fun e=>hx0 e.symm),Array.getElem?_map,hgx]
  simp[hwk]
 have hsz:((gs.map (woken P a a' w')).setIfInBounds 0 a').size=gs.size:=by simp
 have hrt:=runT_crowd_go (P:=P) (sl:=sl) (i:=0) ha (by simpa using hstp)
 have hself0:((gs.map (woken P a a' w')).setIfInBounds 0 a')[0]?=some a':=Array.getElem?_setIfInBounds_self_of_lt (by simpa using hlt)
 generalize hgs:(gs.map (woken P a a' w')).setIfInBounds 0 a'=gs' at hoth hothx hsz hrt hself0
 have hcB:x.ct<w.heap.size:=(C.core.mem x.i _ n2).2 x.ct (by unfold Kit.seat;rw[Seat.one_has])
 obtain⟨hops,hs,hl,hdf⟩:=evHd_ops (Still:=g.Still) (B:=w.heap.size) (i:=0) (fn:=a.frame.fn) (pos:=a.frame.place) (closeEvents_ok hcB)
 have hpast:PastG (g.shut1.fx P κ 0).Still (g.shut1.fx P κ 0).Mem (g.shut1.fx P κ 0).Lo w.heap.size (Knows (T0++MemOp.ofEvents 0 a.frame.fn a.frame.place (closeEvents x.ct)) 0) (T0++MemOp.ofEvents 0 a.frame.fn a.frame.place (closeEvents x.ct)):=
  PastH.appH C1.past hops hs (hdf T0) hl
 have htouch:∀op∈MemOp.ofEvents 0 a.frame.fn a.frame.place (closeEvents x.ct),∀y,op.act.touch?=some y→y.loc=.obj x.ct:=by
  intro op hop y hy
  rw[closeOps] at hop
  simp only[List.mem_toArray,List.mem_cons,List.not_mem_nil,or_false] at hop
  rcases hop with rfl|rfl
  ·simp only[MemAct.touch?,Option.some.injEq] at hy;subst hy;rfl
  ·simp[MemAct.touch?] at hy
 have hrel:∀op∈MemOp.ofEvents 0 a.frame.fn a.frame.place (closeEvents x.ct),∀b,op.act≠.mark (.release b):=by
  intro op hop b
  rw[closeOps] at hop
  simp only[List.mem_toArray,List.mem_cons,List.not_mem_nil,or_false] at hop
  rcases hop with rfl|rfl<;>simp
 have hstw:∀op∈MemOp.ofEvents 0 a.frame.fn a.frame.place (closeEvents x.ct),∀y,op.act.touch?=some y→g.Still y.loc→y.write=false:=fun op hop y hy hst=>hs op hop y hy hst
 have hTr:Tr (hidOf g.hid) (T++MemOp.ofEvents 0 a.frame.fn a.frame.place (closeEvents x.ct)) (T0++MemOp.ofEvents 0 a.frame.fn a.frame.place (closeEvents x.ct)):=hT.plain fun op hop y hy=>by
  rw[htouch op hop y hy]
  rintro⟨b,e,_⟩
  cases e
 have hC2:Core P (g.shut1.fx P κ 0) 0 w.heap.size A' (T0++MemOp.ofEvents 0 a.frame.fn a.frame.place (closeEvents x.ct)) gs' w' (upd q x.i nx):=
  core_app C1 hsz hlt (fun j hj=>hoth j (fun e=>hj (.inl e)) fun e=>hj (.inr (e▸hA'x))) hops (fun j hj=>upd_ne q nx fun e=>hj (.inr (e▸hA'x))) hpast
 have hbusy:busy A' (g.gone++[x])=busy A g.gone+1:=by
  have h1:busy A' g.gone=busy A g.gone:=busy_congr fun y hy=>hA'o y.i (hxg y hy)
  unfold busy at h1⊢
  rw[List.countP_append,h1]
  simp[hA'x]
 have hEx:g.shut1.Ex P κ w.heap.size A' (T0++MemOp.ofEvents 0 a.frame.fn a.frame.place (closeEvents x.ct)) gs' w' (upd q x.i nx):=by
  refine⟨fun i hi=> ?_,fun y hy hay=> ?_,fun y hy hay=> ?_,fun _=> ?_, ?_,fun y hy=> ?_,E.lowS,fun he=> ?_,norel_app E.norel hrel⟩
  ·by_cases e:i=x.i
   ·exact⟨x,by rw[e2];simp,e.symm⟩
   ·obtain⟨y,hy,ey⟩:=E.sub i ((hA'o i e).1 hi)
    exact⟨y,by rw[e2];exact List.mem_append_left _ hy,ey⟩
  ·rw[e2] at hy
   rcases List.mem_append.1 hy with hy|hy
   ·have hyx:=hxg y hy
    have hy0:y.i≠0:=hg.pos y (gone_rs hy)
    obtain⟨gr,k1,k2⟩:=E.each y hy ((hA'o _ hyx).1 hay)
    exact⟨gr,by rw[hoth _ hy0 hyx];exact k1,by rw[upd_ne q nx hyx];exact(k2.app hy0 hops hstw).recast rfl rfl rfl⟩
   ·simp only[List.mem_cons,List.not_mem_nil,or_false] at hy
    subst hy
    exact⟨_,hothx,by rw[upd_same];exact(hnx.app hx0 hops hstw).recast rfl rfl rfl⟩
  ·rw[e2] at hy
   rcases List.mem_append.1 hy with hy|hy
   ·have hyx:=hxg y hy
    have hy0:y.i≠0:=hg.pos y (gone_rs hy)
    exact(E.rest y hy fun z=>hay ((hA'o _ hyx).2 z)).app fun op hop eg=>absurd ((hops op hop).symm.trans eg) (Ne.symm hy0)
   ·simp only[List.mem_cons,List.not_mem_nil,or_false] at hy
    subst hy
    exact absurd hA'x hay
  ·rw[e2,hbusy]
   have:g.shut1.cnt+(busy A g.gone+1)=g.cnt+busy A g.gone:=by show g.cnt-1+_=_;omega
   rw[this]
   exact hcellr g.s 4 5 _ (hg.s hon) (E.st hon)
  ·rw[e2,hbusy]
   have:=E.lim
   show _≤g.lim+1
   omega
  ·rw[e2] at hy
   rcases List.mem_append.1 hy with hy|hy
   ·exact E.low y hy
   ·simp only[List.mem_cons,List.not_mem_nil,or_false] at hy
    subst hy;exact hcB
  ·have:g.ear=false:=he
   rw[hear] at this
   cases this
 have hInv:g.shut1.I w':=by
  refine⟨fun _=>hcellr g.s 4 6 _ (hg.s hon) (C.inv.sm hon),fun _=> ?_,fun y hy=> ?_,fun y hy hn=> ?_,fun y hy=> ?_⟩
  ·obtain⟨c,t,e⟩:=C.inv.fz hon
   exact⟨c,t,by rw[show g.shut1.s=g.s from rfl,hne _ fun(z:g.s=x.ct)=>by have h1:=hr.2.1;rw[←z,hg.s hon] at h1;cases h1];exact e⟩
  ·obtain⟨k2,e⟩:=C.inv.back y hy
   exact⟨k2,by rw[hne _ (hcb y hy)];exact e⟩
  ·rw[e2] at hn
   obtain⟨k2,e⟩:=C.inv.turn y hy fun z=>hn (List.mem_append_left _ z)
   exact⟨k2,by rw[hne _ fun z=>hn (by rw[hct y hy z];simp)];exact e⟩
  ·rw[e2] at hy
   rcases List.mem_append.1 hy with hy|hy
   ·obtain⟨k2,e⟩:=C.inv.shut y hy
    exact⟨k2,by rw[hne _ fun z=>hxn (by rw[←hct y (gone_rs hy) z];exact hy)];exact e⟩
   ·simp only[List.mem_cons,List.not_mem_nil,or_false] at hy
    subst hy;exact⟨k,hself⟩
 have hcomp:CompA P (g.shut1.fx P κ 0) 0 w.heap.size A' (T0++MemOp.ofEvents 0 a.frame.fn a.frame.place (closeEvents x.ct)) gs' w' (upd q x.i nx):=by
  refine⟨hC2,hEx,fun z=> ?_,fun j gj hj hgj=> ?_,hInv⟩
  ·exact C.noh ((hA'o 0 (Ne.symm hx0)).1 z)
  ·by_cases e:j=x.i
   ·subst e
    rw[hothx] at hgj
    obtain rfl:=Option.some.inj hgj
    exact hdr hnx
   ·have hj0:j≠0:=fun e0=>C.noh (by rw[←e0];exact(hA'o j e).1 hj)
    rw[hoth j hj0 e] at hgj
    exact C.run j gj ((hA'o j e).1 hj) hgj
 exact⟨gs',w',sl,_,_,_,g.shut1.fx P κ 0,0,a',v,hrt,hTr,⟨⟨A',by rw[hseen.size];exact hcomp⟩,hsz.trans hi.n,hseen.kinds v hi.vis,hi.nv,hi.size,hi.old.seen hseen⟩,hself0,hc⟩
end
end Co
end Go.Proofs.Ytlngbdggehghgaa

namespace Go.Proofs.Ytlngbdggehghgaa
set_option linter.unusedSimpArgs false
set_option linter.unusedVariables false
namespace Co
open Go.Conc
open Go.ConcN (sumTo upd sumTo_upd upd_ne upd_same)
section
variable {P:Program} {Z:Goal} {h:Nat} {X:Fx} {κ:Kit} {g g':Gh} {B:Nat} {A A':Nat→Prop} {T T0 U U0:Trace} {gs gs':Array Goroutine} {w w':World} {q q':Nat→Nat}
def er (op:MemOp):MemOp:=if op.act.touch?.isSome then {op with act:=.mark .noRoom} else op
theorem er_g (op:MemOp):(er op).g=op.g:=by unfold er;split<;>rfl
theorem er_touch (op:MemOp):(er op).act.touch?=none:=by
 unfold er
 split
 ·rfl
 ·rename_i hh;simpa using hh
theorem er_deaf (op:MemOp) (i d:Nat):deafStep i d (er op)=deafStep i d op:=by
 unfold er
 split
 ·rename_i hh
  obtain⟨x,hx⟩:=Option.isSome_iff_exists.1 hh
  rw[deafStep_touch hx]
  exact deafStep_mute rfl i d
 ·rfl
theorem er_rel (op:MemOp) (hr:∀a,op.act≠.mark (.release a)) (a:Addr):(er op).act≠.mark (.release a):=by
 unfold er
 split
 ·simp
 ·exact hr a
theorem er_low (op:MemOp) (hl:op.act.low B):(er op).act.low B:=by
 unfold er
 split
 ·trivial
 ·exact hl
theorem mem_er {U:Trace} {op:MemOp} (h:op∈U.map er):∃o∈U,op=er o:=by
 obtain⟨o,h1,h2⟩:=Array.mem_map.1 h
 exact⟨o,h1,h2.symm⟩
theorem deaf_er (T U:Trace) (i:Nat):Deaf (T++U.map er) i=Deaf (T++U) i:=by
 obtain⟨l⟩:=U
 simp only[List.map_toArray,Deaf_append,List.foldl_map,er_deaf]
theorem tr_er {H:Nat→Option Nat} (hT:Tr H T T0) (hU:∀k op,U[k]?=some op→∀x,op.act.touch?=some x→wgc H x.loc∧((op.g=0∧x.kind≠.plain)∨(x.kind=.atomic∧(T++U).deaf op.g (T.size+k)≠0))):
 Tr H (T++U) (T0++U.map er):=by
 refine hT.app (by simp) fun k op op0 h1 h2=> ?_
 rw[Array.getElem?_map,h1] at h2
 obtain rfl:=Option.some.inj h2
 cases e:op.act.touch? with
 |none=>
  have:er op=op:=by unfold er;simp[e]
  rw[this]
  exact⟨rfl,.inl ⟨rfl,fun x hx=>by rw[e] at hx;cases hx⟩⟩
 |some x=>
  obtain⟨k1,k2⟩:=hU k op h1 x e
  exact⟨er_g op,.inr ⟨by unfold er;simp[e],x,e,k1,k2⟩⟩
def Main (gs gs':Array Goroutine) (w':World):Prop:=∀gm,gs[0]?=some gm→gs'[0]?=some gm∨gs'[0]?=some (gm.again w')
theorem Main.run (hm:Main gs gs' w') {gm:Goroutine} (h0:gs[0]?=some gm) (hr:gm.status=.running):gs'[0]?=gs[0]?:=by
 rw[h0]
 rcases hm gm h0 with e|e
 ·exact e
 ·rw[e,again_of_running (.inl hr)]
theorem other_go (core:Core P (g.fx P κ 0) 0 B A T0 gs w q) (run:∀i gi,A i→gs[i]?=some gi→gi.status=.running) {i:Nat} {gi g':Goroutine} {es:Array Event} (hi:gs[i]?=some gi) (hi0:i≠0) (hst:stepG P false gi w=.go g' w' es) (hK':g.K w')
 (hch:∀j s c,g.seat κ j=some s→s.has c→w'.heap[c]?=w.heap[c]?) (sl:Option (Nat×Nat)):
 ∃gs',runT P (crowd gs w sl) i=(.next (crowd gs' w' sl),MemOp.ofEvents i gi.frame.fn gi.frame.place es)∧gs'.size=gs.size∧(∀j,j≠0→j≠i→gs'[j]?=gs[j]?)∧Main gs gs' w'∧gs'[i]?=some g'∧
  (mayWake P gi=true→g'.status=.running→∀gm,gs[0]?=some gm→gs'[0]?=some (gm.again w')):=by
 have hlt:i<gs.size:=(Array.getElem?_eq_some_iff.1 hi).1
 have hm0:(i==0)=false:=by simp[hi0]
 have hlt0:∀gm,gs[0]?=some gm→((gs.map (woken P gi g' w')).setIfInBounds i g')[0]?=some (woken P gi g' w' gm):=by
  intro gm hgm
  rw[Array.getElem?_setIfInBounds_ne hi0,Array.getElem?_map,hgm]
  rfl
 refine⟨_,runT_crowd_go (sl:=sl) hi (by rw[hm0];exact hst),by simp,fun j hj hji=> ?_,fun gm hgm=> ?_,Array.getElem?_setIfInBounds_self_of_lt (by simpa using hlt),fun hw hr gm hgm=> ?_⟩
 ·rw[Array.getElem?_setIfInBounds_ne (fun e=>hji e.symm),Array.getElem?_map]
  cases e:gs[j]? with
  |none=>rfl
  |some y=>
   have C':Core P (g.fx P κ 0) 0 B A T0 gs w' q:=⟨core.idle,fun j s c _ e hc=>by rw[hch j s c e hc];exact core.chans j s c id e hc,core.wf,core.live,core.inj,core.above,core.mem,core.nomem,core.lo,core.past,hK'⟩
   have:woken P gi g' w' y=y:=woken_of_again (by
    by_cases ea:A j
    ·exact again_of_running (.inl (run j y ea e)) _
    ·exact C'.fixed (fun z=>z.elim hj ea) e)
   simp[this]
 ·rw[hlt0 gm hgm]
  unfold woken
  split
  ·exact .inr rfl
  ·exact .inl rfl
 ·rw[hlt0 gm hgm]
  simp[woken,hw,hr]
def AddAt (P:Program) (s m:Nat) (gi:Goroutine):Prop:=
 ∀(w:World) (k b:Nat),b≤1→k<1000→w.frozen? (c5 s)=false→w.cell? (c5 s)=some (.int .u64 (((k+1:Nat):Int)*KK+(b:Int)))→∃g' es,Wgs s es∧
  stepG P false gi w=.go g' (w.setCell (c5 s) (.int .u64 ((k:Int)*KK+(b:Int)))) es∧((0<k∨b=0)→QuitsD P m 1 g')∧((k=0∧b=1)→Tail P s m 3 g')
theorem doer_go (hκ:κ.Ok P) (hg:g.Ok 0) (core:Core P (g.fx P κ 0) 0 B A T0 gs w q) (run:∀i gi,A i→gs[i]?=some gi→gi.status=.running) (hon:g.on=true) (hc5:∃y,w.cell? (c5 g.s)=some y) (hS:g.s<B) {x:Wk} (hx:x∈g.gone) (hlow:x.ct<B) (hcl:∃k,w.heap[x.ct]?=some (.chan 0 #[] true k k false))
 {gi:Goroutine} (hi:gs[x.i]?=some gi) {n:Nat} (hd:Doer P κ g B T0 x n gi) (hoff:∀gm c,gs[0]?=some gm→offersAt gm c true=[]) (sl:Option (Nat×Nat)):
 (∃(gs':Array Goroutine) (U:Trace) (n':Nat) (gr':Goroutine),runT P (crowd gs w sl) x.i=(.next (crowd gs' w sl),U)∧gs'.size=gs.size∧(∀j,j≠0→j≠x.i→gs'[j]?=gs[j]?)∧Main gs gs' w∧gs'[x.i]?=some gr'∧gr'.status=.running∧(∀op∈U,op.g=x.i)∧
  (∀op∈U,∀y,op.act.touch?=some y→g.Still y.loc∧y.write=false)∧(∀op∈U,∀a,op.act≠.mark (.release a))∧PastG g.Still g.Mem (g.fx P κ 0).Lo B (Knows (T0++U) 0) (T0++U)∧n'<n∧Doer P κ g B (T0++U) x n' gr')∨
 ∃m,n=m+1∧Deaf T0 x.i=1∧Rel g.s T0 x.i∧AddAt P g.s m gi:=by
 have hx0:x.i≠0:=hg.pos x (gone_rs hx)
 have hm0:(x.i==0)=false:=by simp[hx0]
 have uK:∀(t U:Trace) (j:Nat),Knows t 0 j→Knows (t++U) 0 j:=fun t U j hk=>hk.app U
 have hmem:¬g.Mem x.i:=by
  rintro(⟨e,_⟩|⟨y,hy,e⟩)
  ·exact hx0 e
  ·exact gone_sit hg hx hy e.symm
 have hlo:(g.fx P κ 0).Lo x.i:=⟨hx0,.inr ⟨x,hx,rfl⟩⟩
 have hlt:x.i<gs.size:=(Array.getElem?_eq_some_iff.1 hi).1
 have hK:g.K w:=core.keep
 cases hd with
 |far hr0 hgo hdf hwr=>
  rename_i k w₀
  have hcase:(∃g₂,AtIn P false g.K g.Still B (κ.seat g.s x) gi g₂)∨∃k' g' es,k=k'+1∧stepG P false gi w=.go g' w es∧(∀e∈es,EvC g.Still B e)∧Goes P false (RK g.K) (DS g.Still B) (fun a _=> ∃g₂,AtIn P false g.K g.Still B (κ.seat g.s x) a g₂) k' g' w:=by
   cases k with
   |zero=>exact .inl (hgo w hK)
   |succ k'=>
    rcases hgo with hstop|⟨_,hstep⟩
    ·exact .inl (hstop w hK)
    ·have hs:=hstep w hK
     cases hgo':stepG P false gi w with
     |go g' w' es=>
      rw[hgo',goes_go] at hs
      obtain⟨⟨rfl,hes⟩,hG'⟩:=hs
      exact .inr ⟨k',g',es,rfl,rfl,hes,hG'⟩
     |_=>rw[hgo'] at hs;exact hs.elim
  rcases hcase with⟨g₂,hst1,hf1,hc1,hdy1,hhome,es,hes,hstp⟩|⟨k',g',es,rfl,hst,hes,hG'⟩
  ·obtain⟨hops,hr,hl,hd0⟩:=evC_ops (i:=x.i) (fn:=gi.frame.fn) (pos:=gi.frame.place) hes
   obtain⟨kc,hcl⟩:=hcl
   have hp:partners (gs.setIfInBounds x.i ph) x.ct true=[]:=partners_nil fun j y hy=>by
    rcases getElem?_stand gs x.i j y hy with⟨_,rfl⟩|⟨_,hy'⟩
    ·exact offersAt_ph _ _
    ·by_cases e0:j=0
     ·subst e0;exact hoff y _ hy'
     ·by_cases ea:A j
      ·exact offersAt_of_not_blocked (by rw[run j y ea hy'];simp) _ _
      ·exact core.noSend (fun z=>z.elim e0 ea) hy' _
   have hrt:=crowd_recv_closed (P:=P) (sl:=sl) hi (by rw[hm0];exact hstp w hK) hcl hp
   obtain⟨n,hn,hway⟩:=hκ.out g.s x g₂ hhome
   have e1:g₂.finishComm P #[rcase x.ct κ.zt] (κ.seat g.s x).shape 0 κ.zt false=Go.Conc.served g₂ (recvd true κ.zt false):=by
    rw[finishComm_served,show(κ.seat g.s x).shape=.recv true from rfl,commResult_one]
   generalize hop1:({g:=x.i,fn:=g₂.frame.fn,pos:=g₂.frame.place,act:=.recvClosed x.ct}:MemOp)=op1 at hrt
   have ho1:op1.g=x.i∧op1.act=.recvClosed x.ct:=by subst hop1;exact⟨rfl,rfl⟩
   have hU:∀op∈MemOp.ofEvents x.i gi.frame.fn gi.frame.place es++#[op1],op.g=x.i:=by
    intro op hop
    rcases Array.mem_append.1 hop with z|z
    ·exact hops op z
    ·simp only[List.mem_toArray,List.mem_cons,List.not_mem_nil,or_false] at z;subst z;exact ho1.1
   have hone:∀op∈(#[op1]:Trace),op=op1:=by intro op hop;simpa using hop
   have p1:=past_read (U:=MemOp.ofEvents x.i gi.frame.fn gi.frame.place es) (Kf:=Knows T0 0) core.past (Kf':=Knows (T0++MemOp.ofEvents x.i gi.frame.fn gi.frame.place es) 0) (uK _ _) hwr hlo hdf hops hr (hd0 T0) hl
   have p2:=p1.appMute (u:=#[op1]) (g:=x.i) (K':=Knows ((T0++MemOp.ofEvents x.i gi.frame.fn gi.frame.place es)++#[op1]) 0) (uK _ _) (fun op hop=>by rw[hone op hop];exact ho1.1) (fun op hop=>by rw[hone op hop,ho1.2];rfl) (fun hm=>absurd hm hmem)
    (fun op hop=>by rw[hone op hop,ho1.2];exact hlow)
   rw[Array.append_assoc] at p2
   have hdz:Deaf (T0++(MemOp.ofEvents x.i gi.frame.fn gi.frame.place es++#[op1])) x.i=0:=by
    rw[←Array.append_assoc,Deaf_quiet (u:=#[op1]) (fun op hop d=>by rw[hone op hop];unfold deafStep;rw[ho1.2]),hd0 T0]
    exact hdf
   refine .inl ⟨_,_,n,_,hrt,by simp,fun j _ hj=>Array.getElem?_setIfInBounds_ne fun e=>hj e.symm,fun gm hgm=> .inl (by rw[Array.getElem?_setIfInBounds_ne hx0];exact hgm),Array.getElem?_setIfInBounds_self_of_lt hlt,by rw[e1];exact hway.running,hU,fun op hop y hy=> ?_,fun op hop a=> ?_,p2,by omega,
    by rw[e1];exact .way hway hdz (fun e=>by cases e)⟩
   ·rcases Array.mem_append.1 hop with z|z
    ·exact⟨(hr op z y hy).2,(hr op z y hy).1⟩
    ·rw[hone op z,ho1.2] at hy;cases hy
   ·rcases Array.mem_append.1 hop with z|z
    ·exact evc_rel hes op z a
    ·rw[hone op z,ho1.2];simp
  ·obtain⟨hops,hr,hl,hd0⟩:=evC_ops (i:=x.i) (fn:=gi.frame.fn) (pos:=gi.frame.place) hes
   obtain⟨gs',hrt,hsz,hoth,hmn,hself,_⟩:=other_go core run hi hx0 hst hK (fun _ _ _ _ _=>rfl) sl
   have hrun2:g'.status=.running:=by
    cases k' with
    |zero=>exact(hG' w hK).choose_spec.1
    |succ k''=>exact hG'.elim (fun z=>(z w hK).choose_spec.1) (·.1)
   exact .inl ⟨gs',_,k'+1+κ.R,g',hrt,hsz,hoth,hmn,hself,hrun2,hops,fun op hop y hy=>⟨(hr op hop y hy).2,(hr op hop y hy).1⟩,fun op hop a=>evc_rel hes op hop a,past_read (Kf:=Knows T0 0) core.past (uK _ _) hwr hlo hdf hops hr (hd0 T0) hl,by omega,
    .far hrun2 hG' ((hd0 T0).trans hdf) (hwr.app fun op hop y hy _=>(hr op hop y hy).1)⟩
 |way hway hdf hrel=>
  rename_i d rel
  have mute:∀(g':Goroutine) (es:Array Event) (n' d':Nat) (rel':Bool),(∀e∈es,(MemAct.ofEvent e).touch?=none∧(MemAct.ofEvent e).low B∧∀a,MemAct.ofEvent e≠.mark (.release a))→stepG P false gi w=.go g' w es→n'<n→Way P g.s n' d' rel' g'→deafBehind d es=d'→
   (rel'=true→Rel g.s (T0++MemOp.ofEvents x.i gi.frame.fn gi.frame.place es) x.i)→
   ∃(gs':Array Goroutine) (U:Trace) (n':Nat) (gr':Goroutine),runT P (crowd gs w sl) x.i=(.next (crowd gs' w sl),U)∧gs'.size=gs.size∧(∀j,j≠0→j≠x.i→gs'[j]?=gs[j]?)∧Main gs gs' w∧gs'[x.i]?=some gr'∧gr'.status=.running∧(∀op∈U,op.g=x.i)∧
    (∀op∈U,∀y,op.act.touch?=some y→g.Still y.loc∧y.write=false)∧(∀op∈U,∀a,op.act≠.mark (.release a))∧PastG g.Still g.Mem (g.fx P κ 0).Lo B (Knows (T0++U) 0) (T0++U)∧n'<n∧Doer P κ g B (T0++U) x n' gr':=by
   intro g' es n' d' rel' hes hst hn' hw' hdb hre
   obtain⟨gs',hrt,hsz,hoth,hmn,hself,_⟩:=other_go core run hi hx0 hst hK (fun _ _ _ _ _=>rfl) sl
   have hmt:∀op∈MemOp.ofEvents x.i gi.frame.fn gi.frame.place es,op.act.touch?=none:=by
    intro op hop
    obtain⟨e,he,rfl⟩:=Go.Conc.mem_ofEvents hop
    exact(hes e he).1
   refine⟨gs',_,n',g',hrt,hsz,hoth,hmn,hself,hw'.running,(fun op hop=>by obtain⟨e,he,rfl⟩:=Go.Conc.mem_ofEvents hop;rfl),(fun op hop y hy=>by rw[hmt op hop] at hy;cases hy),(fun op hop a=>by obtain⟨e,he,rfl⟩:=Go.Conc.mem_ofEvents hop;exact(hes e he).2.2 a), ?_,hn',
    .way hw' (by rw[Deaf_own,hdf,hdb]) hre⟩
   exact PastG.appMute (K:=Knows T0 0) core.past (uK _ _) (fun op hop=>by obtain⟨e,he,rfl⟩:=Go.Conc.mem_ofEvents hop;rfl) hmt (fun hm=>absurd hm hmem) (fun op hop=>by
    obtain⟨e,he,rfl⟩:=Go.Conc.mem_ofEvents hop
    exact(hes e he).2.1)
  cases hway with
  |calm hr1 hst hw'=>
   rename_i n g'
   exact .inl (mute g' #[] n d rel (by simp) (hst w _ hc5.choose_spec) (by omega) hw' rfl (fun e=>by simpa[MemOp.ofEvents] using hrel e))
  |rel hr1 hst hw'=>
   rename_i n g'
   exact .inl (mute g' _ n 0 true (fun e he=>by simp only[List.mem_toArray,List.mem_cons,List.not_mem_nil,or_false] at he;subst he;exact⟨rfl,hS,fun a=>by simp[mk,MemAct.ofEvent]⟩) (hst w) (by omega) hw' rfl (fun _=>Rel.new hdf rfl))
  |deaf hr1 hst hw'=>
   rename_i n g'
   exact .inl (mute g' _ n 1 true (fun e he=>by simp only[List.mem_toArray,List.mem_cons,List.not_mem_nil,or_false] at he;subst he;exact⟨rfl,trivial,fun a=>by simp[mk,MemAct.ofEvent]⟩) (hst w) (by omega) hw' rfl (fun _=>(hrel rfl).app fun op hop _=>by
    obtain⟨e,he,rfl⟩:=Go.Conc.mem_ofEvents hop
    simp at he
    subst he
    rfl))
  |add hr1 hadd=>
   rename_i n
   exact .inr ⟨n,rfl,hdf,hrel rfl,hadd⟩
end
end Co
end Go.Proofs.Ytlngbdggehghgaa

/-
  Boxes that are born with cells to hide: a scheduler's, a runner's; a worker is started. Conditions: as each theorem says.
  A worker is started; main sits down, or rises; the token passes over a channel. Conditions: as each theorem says.
  The beginning and the end: from the logic to a run that ends well, with no race, others only leaving. Conditions: as each theorem says.
-/
import Derived.Test.YtlngbdggehghgaaCoW
namespace Go.Proofs.Ytlngbdggehghgaa
set_option linter.unusedSimpArgs false
set_option linter.unusedVariables false
namespace Co
open Go.Conc
open Go.ConcN (sumTo upd sumTo_upd upd_ne upd_same)
section
variable {P:Program} {Z:Goal} {h:Nat} {X X':Fx} {κ:Kit} {g g':Gh} {B B':Nat} {A A':Nat→Prop} {T T0 U U0:Trace} {gs gs':Array Goroutine} {w w':World} {q q':Nat→Nat}
theorem core_grow (C:Core P X h B A T0 gs w q) (hK:∀w,X'.K w→X.K w) (hKw:X'.K w) (hS:∀l,X.Still l→X'.Still l) (hnew:∀l,X'.Still l→X.Still l∨∃a,l=.cell a∧B≤a.block) (eI:X'.Inb=X.Inb) (eM:∀i,X'.Mem i↔X.Mem i) (eL:∀i,X.Lo i→X'.Lo i)
 (hB:B≤B'):Core P X' h B' A T0 gs w q:=by
 have hev:∀e,EvC X.Still B e→EvC X'.Still B' e:=fun e ⟨a,h1,h2,h3⟩=>⟨a,h1,hS _ h2,by omega⟩
 have hat:∀main s g g₂,AtIn P main X.K X.Still B s g g₂→AtIn P main X'.K X'.Still B' s g g₂:=fun main s g g₂ ⟨h1,h2,h3,h4,h5,es,h6,h7⟩=>⟨h1,h2,h3,h4,h5,es,fun e he=>hev e (h6 e he),fun w hw=>h7 w (hK w hw)⟩
 have hgo:∀main s (k:Nat) (g:Goroutine) (w:World),Goes P main (RK X.K) (DS X.Still B) (fun g _=> ∃g₂,AtIn P main X.K X.Still B s g g₂) k g w→Goes P main (RK X'.K) (DS X'.Still B') (fun g _=> ∃g₂,AtIn P main X'.K X'.Still B' s g g₂) k g w:=by
  intro main s k
  induction k with
  |zero=>intro g w hg w₁ h₁;obtain⟨g₂,h2⟩:=hg w₁ (hK _ h₁);exact⟨g₂,hat _ _ _ _ h2⟩
  |succ k ih=>
   intro g w hg
   rcases hg with hstop|⟨hr,hst⟩
   ·exact .inl fun w₁ h₁=>let⟨g₂,h2⟩:=hstop w₁ (hK _ h₁);⟨g₂,hat _ _ _ _ h2⟩
   ·refine .inr ⟨hr,fun w₁ h₁=> ?_⟩
    have:=hst w₁ (hK _ h₁)
    cases hgo:stepG P main g w₁ with
    |go g' w' es=>
     rw[hgo,goes_go] at this
     rw[goes_go]
     exact⟨⟨this.1.1,fun e he=>hev e (this.1.2 e he)⟩,ih _ _ this.2⟩
    |_=>rw[hgo] at this;exact this.elim
 have hsits:∀main s n g,Sits P main X.K X.Still B s n g→Sits P main X'.K X'.Still B' s n g:=by
  intro main s n g hs
  rcases hs with⟨k,w,e,hg⟩|⟨e,g₀,g₂,h1,h2⟩
  ·exact .inl ⟨k,w,e,hgo main s k g w hg⟩
  ·exact .inr ⟨e,g₀,g₂,h1,hat _ _ _ _ h2⟩
 refine⟨fun i g hi hg=> ?_,fun i s c=>by rw[eI];exact C.chans i s c,fun i s=>by rw[eI];exact C.wf i s,C.live,fun i i' s s' c=>by rw[eI];exact C.inj i i' s s' c,C.above,fun i s e=> ?_,fun i hi=> ?_,fun i s hi e=> ?_,⟨C.past.clean,fun i a ha hm=> ?_,fun i a ha hw hs g hg=> ?_,fun g hg=>C.past.hears g ((eM g).1 hg),fun op hop=>MemAct.low_mono hB (C.past.seen op hop)⟩,hKw⟩
 ·have:=C.idle i g hi hg
  rw[eI]
  cases e:X.Inb i with
  |none=>rw[e] at this;exact this
  |some s=>rw[e] at this;exact hsits _ _ _ _ this
 ·rw[eI] at e
  exact⟨(eM i).2 (C.mem i s e).1,fun c hc=>Nat.lt_of_lt_of_le ((C.mem i s e).2 c hc) hB⟩
 ·rw[eI];exact C.nomem i ((eM i).1 hi)
 ·rw[eI] at e;exact eL i (C.lo i s hi e)
 ·exact(C.past.known i a ha hm).imp id fun⟨x,y,gg,z1,z2⟩=>⟨x,hS _ y,gg,z1,eL _ z2⟩
 ·rcases hnew _ hs with h1|⟨ad,e1,e2⟩
  ·exact C.past.wrote i a ha hw h1 g ((eM g).1 hg)
  ·exfalso
   obtain⟨x,hx,hxa⟩:=touch_of ha
   have hl:=C.past.seen x (Array.mem_of_getElem? hx)
   cases hact:x.act with
   |access ev=>
    rw[hact] at hxa hl
    simp only[MemAct.touch?,Option.some.injEq] at hxa
    subst hxa
    simp only[MemAct.low] at hl
    simp only at e1
    rw[e1] at hl
    simp only[Loc.low] at hl
    omega
   |mark m=>
    rw[hact] at hxa hl
    cases m<;>simp only[MemAct.touch?,Option.some.injEq,reduceCtorEq] at hxa<;>(subst hxa;simp only[Loc.cell.injEq] at e1;subst e1;simp only[MemAct.low] at hl;omega)
   |_=>rw[hact] at hxa;simp[MemAct.touch?] at hxa
theorem alloc_old (w:World) (o:Obj) {r:Nat} (hr:r<w.heap.size):(w.alloc o).heap[r]?=w.heap[r]?:=by
 show(w.heap.push o)[r]?=_
 rw[Array.getElem?_push,if_neg (by omega)]
theorem alloc_new (w:World) (o:Obj):(w.alloc o).heap[w.heap.size]?=some o:=by
 show(w.heap.push o)[w.heap.size]?=_
 simp
theorem alloc_size (w:World) (o:Obj):(w.alloc o).heap.size=w.heap.size+1:=by
 show(w.heap.push o).size=_
 simp
theorem alloc_cell (w:World) (o:Obj) {r j:Nat} {x:Value} (h:w.cell? ⟨r,j,none⟩=some x):(w.alloc o).cell? ⟨r,j,none⟩=some x:=by
 have hr:r<w.heap.size:=by
  by_cases hr:r<w.heap.size
  ·exact hr
  ·have e:w.heap[r]?=none:=Array.getElem?_eq_none (by omega)
   simp[World.cell?,e] at h
 unfold World.cell? at h⊢
 rw[alloc_old w o hr]
 exact h
theorem co_born (hZ:Z.Ok P) (hκ:κ.Ok P) (hg:g.Ok 0) (hoff:g.off=0) (hoff':g'.off=0) {o:Obj} {a a':Goroutine} {v v':World} (hrun:a.status=.running) (hst:∀w,w.heap.size=v.heap.size→stepG P true a w=.go a' (w.alloc o) #[])
 (eI:g'.seat κ=g.seat κ) (eM:∀i,g'.Mem i↔g.Mem i) (en:g'.n=g.n) (ee:g'.ear=g.ear) (hK:∀w,g'.K w→g.K w) (hS:∀l,g.Still l→g'.Still l) (hnew:∀l,g'.Still l→g.Still l∨∃a,l=.cell a∧v.heap.size≤a.block)
 (h5:∀r,hidOf g.hid r=some 5→hidOf g'.hid r=some 5) (h5':∀r,hidOf g'.hid r=some 5→hidOf g.hid r=some 5∨v.heap.size≤r) (hsize:∀r n,hidOf g'.hid r=some n→r<v'.heap.size) (hold:Z.old.size≤v.heap.size→∀r,r<Z.old.size→hidOf g'.hid r=hidOf g.hid r) (hs:g'.on=true→g'.s<v.heap.size+1)
 (hf:∀w,Vis (hidOf g.hid) w v→g.K w→g.I w→(g.on=true→w.cell? (c5 g.s)=some (.int .u64 ((g.cnt:Int)*KK)))→w.heap.size=v.heap.size→
  g'.K (w.alloc o)∧g'.I (w.alloc o)∧(g'.on=true→(w.alloc o).cell? (c5 g'.s)=some (.int .u64 ((g'.cnt:Int)*KK)))∧Vis (hidOf g'.hid) (w.alloc o) v')
 (hn:nview v'.heap) (hc:Co P Z 0 (g'.fx P κ 0) a' v'):Co P Z 0 (g.fx P κ 0) a v:=by
 refine co_turn hZ (hg.fx hκ) hrun fun T T0 gs w sl q hT hi hga=> ?_
 obtain⟨A,C⟩:=hi.comp
 have E:g.Ex P κ w.heap.size A T0 gs w q:=C.ex
 have hg0:g.gone=[]:=by unfold Gh.gone;rw[hoff];rfl
 have hg0':g'.gone=[]:=by unfold Gh.gone;rw[hoff'];rfl
 have hAn:∀i,¬A i:=fun i hi=>by
  obtain⟨x,hx,_⟩:=E.sub i hi
  rw[hg0] at hx
  cases hx
 have hb0:∀l,busy A l=0:=fun l=>by
  unfold busy
  rw[List.countP_eq_zero]
  intro y _
  simpa using hAn y.i
 have hsz:w.heap.size=v.heap.size:=hi.vis.size.symm
 have hstp:=hst w hsz
 obtain⟨f1,f2,f3,f4⟩:=hf w hi.vis C.core.keep C.inv (fun e=>by have:=E.st e;rw[hb0,Nat.add_zero] at this;exact this) hsz
 have hhs:Hs (hidOf g.hid) w (w.alloc o):=fun r n e=>by
  have hr:r<w.heap.size:=by rw[hsz];exact hi.size r n e
  rw[alloc_old w o hr]
  exact SameFrom.refl _ _
 obtain⟨C',hself⟩:=C.own (g':=a') (hg.fx hκ) hga (es:=#[]) (w':=w.alloc o) (by simp) hhs (Nat.le_refl w.heap.size)
 have hrt:=runT_crowd_go (P:=P) (sl:=sl) (i:=0) hga (by simpa using hstp)
 have hgsz:((gs.map (woken P a a' (w.alloc o))).setIfInBounds 0 a').size=gs.size:=by simp
 generalize hgs:(gs.map (woken P a a' (w.alloc o))).setIfInBounds 0 a'=gs' at C' hself hrt hgsz
 rw[show MemOp.ofEvents 0 a.frame.fn a.frame.place #[]=#[] by simp[MemOp.ofEvents]] at C' hrt
 rw[Array.append_empty] at C'
 have hcore:Core P (g'.fx P κ 0) 0 (w.alloc o).heap.size A T0 gs' (w.alloc o) q:=
  core_grow C'.core hK f1 hS (fun l hl=>(hnew l hl).imp id fun⟨ad,e1,e2⟩=>⟨ad,e1,by rw[hsz];exact e2⟩) eI eM (fun i ⟨k1,k2⟩=>⟨k1,by rw[eI,hg0'];rw[hg0] at k2;exact k2⟩) (by rw[alloc_size];omega)
 have hTr:Tr (hidOf g'.hid) (T++#[]) T0:=by
  rw[Array.append_empty]
  exact Tr.mono (show Tr (hidOf g.hid) T T0 from hT) h5 h5' (fun op hop=>by rw[←hsz];exact C.core.past.seen op hop)
 refine⟨gs',w.alloc o,sl,#[],T0,q,g'.fx P κ 0,0,a',v',hrt,hTr,⟨⟨A,hcore,⟨fun i hi=>absurd hi (hAn i),fun x hx=> ?_,fun x hx=> ?_,fun e=> ?_, ?_,fun x hx=> ?_,fun e=> ?_,fun e=>E.deaf0 (by rw[←ee];exact e),E.norel⟩,C.noh,fun j gj hj=>absurd hj (hAn j),f2⟩, ?_,f4,hn,hsize, ?_⟩,hself,hc⟩
 ·rw[hg0'] at hx;cases hx
 ·rw[hg0'] at hx;cases hx
 ·rw[hb0,Nat.add_zero];exact f3 e
 ·rw[hb0];exact Nat.zero_le _
 ·rw[hg0'] at hx;cases hx
 ·rw[alloc_size,hsz];exact hs e
 ·rw[hgsz,hi.n];exact en.symm
 ·have h0:=hi.old
  have hlt:∀(r:Nat) (o:Obj),Z.old[r]?=some o→r<Z.old.size:=fun r o e=>(Array.getElem?_eq_some_iff.1 e).1
  have hz:Z.old.size≤v.heap.size:=by rw[←hsz];exact h0.size
  refine⟨by rw[alloc_size];exact Nat.le_succ_of_le h0.size,fun r o e p=> ?_,fun r o e p=>⟨?_, ?_⟩⟩
  ·show hidOf g'.hid r=none
   rw[hold hz r (hlt r o e)];exact h0.plain r o e p
  ·show hidOf g'.hid r=some 0
   rw[hold hz r (hlt r o e)];exact(h0.odd r o e p).1
  ·rw[alloc_old w _ (by have:=hlt r o e;omega)];exact(h0.odd r o e p).2
def World.born (v:World) (o:Obj):World:={v with heap:=v.heap.push o}
theorem co_born_sched (hZ:Z.Ok P) (hκ:κ.Ok P) (hg:g.Ok 0) (hon:g.on=false) (hrs:g.rs=[]) (hcnt:g.cnt=0) (hm0:g.m0=none) {cells:Array Value} {ty:TypeId} {a a':Goroutine} {v:World} (hrun:a.status=.running)
 (hst:∀w,w.heap.size=v.heap.size→stepG P true a w=.go a' (w.alloc (.cells cells ty)) #[]) (h5:cells[5]?=some (.int .u64 0)) (h6:cells[6]?=some (.int .u32 0)) (hnv:nview v.heap) (hH:∀r n,hidOf g.hid r=some n→r<v.heap.size)
 (hc:Co P Z 0 (({g with on:=true,s:=v.heap.size,hid:=(v.heap.size,5)::g.hid}:Gh).fx P κ 0) a' (World.born v (.cells (cells.extract 0 5) ty))):Co P Z 0 (g.fx P κ 0) a v:=by
 have hoff:g.off=0:=by
  have h1:=hg.up
  rcases hg.off with h2|⟨h2,_⟩
  ·exact h2
  ·rw[hon] at h2;cases h2
 have hhid:∀r,hidOf ((v.heap.size,5)::g.hid) r=if v.heap.size=r then some 5 else hidOf g.hid r:=hidOf_cons _ _ _
 have hsit:g.sit=[]:=by unfold Gh.sit;rw[hrs];simp
 have hsit':({g with on:=true,s:=v.heap.size,hid:=(v.heap.size,5)::g.hid}:Gh).sit=[]:=hsit
 refine co_born hZ hκ hg hoff (g':={g with on:=true,s:=v.heap.size,hid:=(v.heap.size,5)::g.hid}) hoff hrun hst ?_ (fun _=> .rfl) rfl rfl (fun _ hk=>hk) (fun _ hl=>hl) (fun _ hl=> .inl hl) (fun r hr=> ?_) (fun r hr=> ?_) (fun r n hr=> ?_) (fun hz r hr=>by rw[hhid,if_neg (by omega)]) (fun _=>by simp) (fun w hv hK hI _ hsz=> ?_) ?_ hc
 ·funext i
  unfold Gh.seat
  rw[hsit']
  show(if i=0 then g.m0 else _)=_
  rw[hsit]
  rfl
 ·rw[hhid];split
  ·rfl
  ·exact hr
 ·rw[hhid] at hr
  by_cases e:v.heap.size=r
  ·right;omega
  ·rw[if_neg e] at hr;exact .inl hr
 ·rw[hhid] at hr
  show r<(v.heap.push _).size
  rw[Array.size_push]
  by_cases e:v.heap.size=r
  ·omega
  ·rw[if_neg e] at hr
   have:=hH r n hr
   omega
 ·have hnewr:(w.alloc (.cells cells ty)).heap[v.heap.size]?=some (.cells cells ty):=by rw[←hsz];exact alloc_new _ _
  have hcell:∀j x,cells[j]?=some x→(w.alloc (.cells cells ty)).cell? ⟨v.heap.size,j,none⟩=some x:=by
   intro j x hx
   unfold World.cell?
   simp[hnewr,hx]
  refine⟨fun x hx=> ?_,⟨fun _=>hcell 6 _ h6,fun _=>⟨cells,ty,hnewr⟩,fun x hx=> ?_,fun x hx _=> ?_,fun x hx=> ?_⟩,fun _=> ?_,⟨?_,hv.os,hv.output,fun r n hr=> ?_⟩⟩
  ·have:x∈g.rs:=hx
   rw[hrs] at this;cases this
  ·have:x∈g.rs:=hx
   rw[hrs] at this;cases this
  ·have:x∈g.rs:=hx
   rw[hrs] at this;cases this
  ·have:x∈g.rs:=gone_rs hx
   rw[hrs] at this;cases this
  ·have:=hcell 5 _ h5
   show(w.alloc _).cell? (c5 v.heap.size)=some (.int .u64 ((g.cnt:Int)*KK))
   rw[hcnt,show c5 v.heap.size=⟨v.heap.size,5,none⟩ from rfl,this]
   simp
  ·show v.heap.push _=vis (hidOf ((v.heap.size,5)::g.hid)) (w.heap.push _)
   apply Array.ext_getElem?
   intro r
   rw[vis_get,Array.getElem?_push,Array.getElem?_push,hhid,hsz]
   by_cases e:r=v.heap.size
   ·rw[if_pos e,if_pos e,if_pos e.symm];rfl
   ·rw[if_neg e,if_neg e,if_neg (Ne.symm e),hv.heap,vis_get]
  ·rw[hhid] at hr
   by_cases e:v.heap.size=r
   ·exact .inl ⟨cells,ty,by rw[←e];exact hnewr⟩
   ·rw[if_neg e] at hr
    have:=hH r n hr
    rw[alloc_old w _ (by omega)]
    exact hv.kinds r n hr
 ·intro i o hi
  have hi':(v.heap.push (.cells (cells.extract 0 5) ty))[i]?=some o:=hi
  rw[Array.getElem?_push] at hi'
  split at hi'
  ·obtain rfl:=Option.some.inj hi';exact .inl rfl
  ·exact hnv i o hi'
def World.bornR (v:World) (ct cb:Nat) (o:Obj):World:={v with heap:=((v.heap.setIfInBounds ct (.coro none)).setIfInBounds cb (.coro none)).push o}
def Gh.more (g:Gh) (r ct cb:Nat):Gh:={g with rs:=g.rs++[⟨g.n,r,ct,cb⟩],hid:=(r,11)::(ct,0)::(cb,0)::g.hid}
theorem Gh.Ok.more (hg:g.Ok 0) (hoff:g.off=0) (hup:g.up=g.rs.length) (hn:g.n≠0) {r ct cb:Nat} (hr:hidOf g.hid r=none) (ht:hidOf g.hid ct=none) (hb:hidOf g.hid cb=none) (h1:r≠ct) (h2:r≠cb) (h3:ct≠cb):(g.more r ct cb).Ok 0:=by
 have hhid:∀x,hidOf ((r,11)::(ct,0)::(cb,0)::g.hid) x=if r=x then some 11 else if ct=x then some 0 else if cb=x then some 0 else hidOf g.hid x:=fun x=>by rw[hidOf_cons,hidOf_cons,hidOf_cons]
 have hne:∀x n,hidOf g.hid x=some n→hidOf ((r,11)::(ct,0)::(cb,0)::g.hid) x=some n:=fun x n hx=>by
  rw[hhid,if_neg (fun e=>by rw[←e,hr] at hx;cases hx),if_neg (fun e=>by rw[←e,ht] at hx;cases hx),if_neg (fun e=>by rw[←e,hb] at hx;cases hx)];exact hx
 have htk:(g.more r ct cb).rs.take (g.more r ct cb).up=g.rs:=by
  show(g.rs++_).take g.up=g.rs
  rw[hup,List.take_append_of_le_length (Nat.le_refl _),List.take_length]
 have hct:∀x∈g.rs,x.ct≠ct∧x.ct≠cb∧x.cb≠ct∧x.cb≠cb:=fun x hx=>by
  obtain⟨_,k2,k3⟩:=hg.r x hx
  exact⟨(fun e=>by rw[e,ht] at k2;cases k2),(fun e=>by rw[e,hb] at k2;cases k2),(fun e=>by rw[e,ht] at k3;cases k3),(fun e=>by rw[e,hb] at k3;cases k3)⟩
 refine⟨fun e=>hne _ _ (hg.s e),fun x hx=> ?_, ?_,fun x hx=> ?_, ?_,.inl hoff,fun e=>rfl, ?_,fun x hx=> ?_,hg.few,fun s hs=> ?_⟩
 ·rcases List.mem_append.1 hx with hx|hx
  ·obtain⟨k1,k2,k3⟩:=hg.r x hx
   exact⟨hne _ _ k1,hne _ _ k2,hne _ _ k3⟩
  ·simp only[List.mem_cons,List.not_mem_nil,or_false] at hx
   subst hx
   refine⟨?_, ?_, ?_⟩
   ·show hidOf _ r=_;rw[show(g.more r ct cb).hid=(r,11)::(ct,0)::(cb,0)::g.hid from rfl,hhid,if_pos rfl]
   ·show hidOf _ ct=_;rw[show(g.more r ct cb).hid=(r,11)::(ct,0)::(cb,0)::g.hid from rfl,hhid,if_neg h1,if_pos rfl]
   ·show hidOf _ cb=_;rw[show(g.more r ct cb).hid=(r,11)::(ct,0)::(cb,0)::g.hid from rfl,hhid,if_neg h2,if_neg h3,if_pos rfl]
 ·show g.up≤(g.rs++[_]).length
  rw[hup,List.length_append]
  exact Nat.le_add_right _ _
 ·rcases List.mem_append.1 hx with hx|hx
  ·exact hg.pos x hx
  ·simp only[List.mem_cons,List.not_mem_nil,or_false] at hx
   subst hx
   exact hn
 ·show((g.rs++[(⟨g.n,r,ct,cb⟩:Wk)]).map (·.i)).Nodup
  rw[List.map_append]
  refine List.nodup_append.2 ⟨hg.inj,by simp,fun x hx y hy=> ?_⟩
  obtain⟨z,hz,rfl⟩:=List.mem_map.1 hx
  simp only[List.map_cons,List.map_nil,List.mem_cons,List.not_mem_nil,or_false] at hy
  subst hy
  have:=hg.num z (by rw[hup,List.take_length];exact hz)
  show z.i≠g.n
  omega
 ·show((g.rs++[(⟨g.n,r,ct,cb⟩:Wk)]).map (·.ct)++(g.rs++[(⟨g.n,r,ct,cb⟩:Wk)]).map (·.cb)).Nodup
  simp only[List.map_append,List.map_cons,List.map_nil]
  obtain⟨k1,k2,k3⟩:=List.nodup_append.1 hg.chn
  refine List.nodup_append.2 ⟨List.nodup_append.2 ⟨k1,by simp,fun x hx y hy=> ?_⟩,List.nodup_append.2 ⟨k2,by simp,fun x hx y hy=> ?_⟩,fun x hx y hy=> ?_⟩
  ·obtain⟨z,hz,rfl⟩:=List.mem_map.1 hx
   simp only[List.mem_cons,List.not_mem_nil,or_false] at hy
   subst hy
   exact(hct z hz).1
  ·obtain⟨z,hz,rfl⟩:=List.mem_map.1 hx
   simp only[List.mem_cons,List.not_mem_nil,or_false] at hy
   subst hy
   exact(hct z hz).2.2.2
  ·rcases List.mem_append.1 hx with hx|hx<;>rcases List.mem_append.1 hy with hy|hy
   ·exact k3 x hx y hy
   ·obtain⟨z,hz,rfl⟩:=List.mem_map.1 hx
    simp only[List.mem_cons,List.not_mem_nil,or_false] at hy
    subst hy
    exact(hct z hz).2.1
   ·obtain⟨z,hz,rfl⟩:=List.mem_map.1 hy
    simp only[List.mem_cons,List.not_mem_nil,or_false] at hx
    subst hx
    exact fun e=>(hct z hz).2.2.1 e.symm
   ·simp only[List.mem_cons,List.not_mem_nil,or_false] at hx hy
    subst hx
    subst hy
    exact h3
 ·rw[htk] at hx
  exact hg.num x (by rw[hup,List.take_length];exact hx)
 ·obtain⟨x,hx,z,ok,home,e⟩:=hg.m0 s hs
  exact⟨x,List.mem_append_left _ hx,z,ok,home,e⟩
theorem co_born_runner (hZ:Z.Ok P) (hκ:κ.Ok P) (hg:g.Ok 0) (hoff:g.off=0) (hup:g.up=g.rs.length) {cells:Array Value} {ty:TypeId} {ct cb:Nat} {a a':Goroutine} {v:World} (hrun:a.status=.running)
 (hst:∀w,w.heap.size=v.heap.size→stepG P true a w=.go a' (w.alloc (.cells cells ty)) #[]) (h11:cells[11]?=some (.chan (some ct))) (h12:cells[12]?=some (.chan (some cb))) (hnv:nview v.heap) (hH:∀r n,hidOf g.hid r=some n→r<v.heap.size)
 (hct:v.heap[ct]?=some (.chan 0 #[] false 0 0 false)) (hcb:v.heap[cb]?=some (.chan 0 #[] false 0 0 false)) (hne:ct≠cb) (hht:hidOf g.hid ct=none) (hhb:hidOf g.hid cb=none) (hco:Z.old.size≤ct∧Z.old.size≤cb)
 (hc:Co P Z 0 ((g.more v.heap.size ct cb).fx P κ 0) a' (World.bornR v ct cb (.cells (cells.extract 0 11) ty))):Co P Z 0 (g.fx P κ 0) a v:=by
 have hhid:∀x,hidOf ((v.heap.size,11)::(ct,0)::(cb,0)::g.hid) x=if v.heap.size=x then some 11 else if ct=x then some 0 else if cb=x then some 0 else hidOf g.hid x:=fun x=>by rw[hidOf_cons,hidOf_cons,hidOf_cons]
 have hctl:ct<v.heap.size:=(Array.getElem?_eq_some_iff.1 hct).1
 have hcbl:cb<v.heap.size:=(Array.getElem?_eq_some_iff.1 hcb).1
 have hsit:(g.more v.heap.size ct cb).sit=g.sit:=by
  unfold Gh.sit Gh.more
  simp only
  rw[hup,List.take_append_of_le_length (Nat.le_refl _)]
 have h5:∀r,hidOf g.hid r=some 5→hidOf ((v.heap.size,11)::(ct,0)::(cb,0)::g.hid) r=some 5:=fun r hr=>by
  have:=hH r 5 hr
  rw[hhid,if_neg (by omega),if_neg (fun e=>by rw[←e,hht] at hr;cases hr),if_neg (fun e=>by rw[←e,hhb] at hr;cases hr)];exact hr
 have hgone:(g.more v.heap.size ct cb).gone=[]:=by unfold Gh.gone;rw[show(g.more v.heap.size ct cb).off=0 from hoff];rfl
 refine co_born hZ hκ hg hoff (g':=g.more v.heap.size ct cb) hoff hrun hst ?_ (fun i=> ?_) rfl rfl (fun w hk x hx=>hk x (List.mem_append_left _ hx)) (fun l ⟨x,hx,hl⟩=>⟨x,List.mem_append_left _ hx,hl⟩) (fun l ⟨x,hx,hl⟩=> ?_) h5 (fun r hr=> ?_) (fun r n hr=> ?_) (fun hz r hr=>by rw[show(g.more v.heap.size ct cb).hid=(v.heap.size,11)::(ct,0)::(cb,0)::g.hid from rfl,hhid,if_neg (by omega),if_neg (by omega),if_neg (by omega)]) (fun e=> ?_) (fun w hv hK hI hst5 hsz=> ?_) ?_ hc
 ·funext i
  unfold Gh.seat
  rw[hsit]
  rfl
 ·unfold Gh.Mem
  rw[hsit]
  rfl
 ·rcases List.mem_append.1 hx with hx|hx
  ·exact .inl ⟨x,hx,hl⟩
  ·simp only[List.mem_cons,List.not_mem_nil,or_false] at hx
   subst hx
   rcases hl with rfl|rfl
   ·exact .inr ⟨_,rfl,Nat.le_refl _⟩
   ·exact .inr ⟨_,rfl,Nat.le_refl _⟩
 ·rw[show(g.more v.heap.size ct cb).hid=(v.heap.size,11)::(ct,0)::(cb,0)::g.hid from rfl,hhid] at hr
  split at hr
  ·cases hr
  ·split at hr
   ·cases hr
   ·split at hr
    ·cases hr
    ·exact .inl hr
 ·rw[show(g.more v.heap.size ct cb).hid=(v.heap.size,11)::(ct,0)::(cb,0)::g.hid from rfl,hhid] at hr
  show r<(((v.heap.setIfInBounds ct _).setIfInBounds cb _).push _).size
  simp only[Array.size_push,Array.size_setIfInBounds]
  split at hr
  ·omega
  ·split at hr
   ·omega
   ·split at hr
    ·omega
    ·have:=hH r n hr
     omega
 ·have:=hH g.s 5 (hg.s e)
  show g.s<_
  omega
 ·have hnewr:(w.alloc (.cells cells ty)).heap[v.heap.size]?=some (.cells cells ty):=by rw[←hsz];exact alloc_new _ _
  have hcell:∀j x,cells[j]?=some x→(w.alloc (.cells cells ty)).cell? ⟨v.heap.size,j,none⟩=some x:=by
   intro j x hx
   unfold World.cell?
   simp[hnewr,hx]
  have hwct:w.heap[ct]?=some (.chan 0 #[] false 0 0 false):=by
   have:=hct
   rw[hv.heap,vis_get,hht,map_see_none] at this
   exact this
  have hwcb:w.heap[cb]?=some (.chan 0 #[] false 0 0 false):=by
   have:=hcb
   rw[hv.heap,vis_get,hhb,map_see_none] at this
   exact this
  have hold:∀r ob,w.heap[r]?=some ob→(w.alloc (.cells cells ty)).heap[r]?=some ob:=fun r ob e=>by
   rw[alloc_old w _ (Array.getElem?_eq_some_iff.1 e).1];exact e
  refine⟨fun x hx=> ?_,⟨fun e=>alloc_cell w _ (hI.sm e),fun e=> ?_,fun x hx=> ?_,fun x hx _=> ?_,fun x hx=> ?_⟩,fun e=>alloc_cell w _ (hst5 e),⟨?_,hv.os,hv.output,fun r n hr=> ?_⟩⟩
  ·rcases List.mem_append.1 hx with hx|hx
   ·exact⟨alloc_cell w _ (hK x hx).1,alloc_cell w _ (hK x hx).2⟩
   ·simp only[List.mem_cons,List.not_mem_nil,or_false] at hx
    subst hx
    exact⟨hcell 11 _ h11,hcell 12 _ h12⟩
  ·obtain⟨c,t,e1⟩:=hI.fz e
   exact⟨c,t,hold _ _ e1⟩
  ·rcases List.mem_append.1 hx with hx|hx
   ·obtain⟨k,e⟩:=hI.back x hx
    exact⟨k,hold _ _ e⟩
   ·simp only[List.mem_cons,List.not_mem_nil,or_false] at hx
    subst hx
    exact⟨0,hold _ _ hwcb⟩
  ·rcases List.mem_append.1 hx with hx|hx
   ·obtain⟨k,e⟩:=hI.turn x hx (by unfold Gh.gone;rw[hoff];simp)
    exact⟨k,hold _ _ e⟩
   ·simp only[List.mem_cons,List.not_mem_nil,or_false] at hx
    subst hx
    exact⟨0,hold _ _ hwct⟩
  ·rw[hgone] at hx;cases hx
  ·show((v.heap.setIfInBounds ct (.coro none)).setIfInBounds cb (.coro none)).push _=vis (hidOf ((v.heap.size,11)::(ct,0)::(cb,0)::g.hid)) (w.heap.push _)
   apply Array.ext_getElem?
   intro r
   rw[vis_get,Array.getElem?_push,Array.getElem?_push,hhid,hsz]
   simp only[Array.size_setIfInBounds]
   by_cases e:r=v.heap.size
   ·rw[if_pos e,if_pos e,if_pos e.symm];rfl
   ·rw[if_neg e,if_neg e,if_neg (Ne.symm e)]
    by_cases e1:ct=r
    ·subst e1
     rw[if_pos rfl,Array.getElem?_setIfInBounds_ne (Ne.symm hne),Array.getElem?_setIfInBounds_self_of_lt hctl,hwct]
     rfl
    ·rw[if_neg e1]
     by_cases e2:cb=r
     ·subst e2
      rw[if_pos rfl,Array.getElem?_setIfInBounds_self_of_lt (by simpa using hcbl),hwcb]
      rfl
     ·rw[if_neg e2,Array.getElem?_setIfInBounds_ne e2,Array.getElem?_setIfInBounds_ne e1,hv.heap,vis_get]
  ·rw[show(g.more v.heap.size ct cb).hid=(v.heap.size,11)::(ct,0)::(cb,0)::g.hid from rfl,hhid] at hr
   split at hr
   ·rename_i e
    exact .inl ⟨cells,ty,by rw[←e];exact hnewr⟩
   ·split at hr
    ·rename_i e
     exact .inr (.inl ⟨_,_,_,_,_,_,by rw[←e];exact hold _ _ hwct⟩)
    ·split at hr
     ·rename_i e
      exact .inr (.inl ⟨_,_,_,_,_,_,by rw[←e];exact hold _ _ hwcb⟩)
     ·have:=hH r n hr
      rw[alloc_old w _ (by omega)]
      exact hv.kinds r n hr
 ·intro i ob hi
  have hi':(((v.heap.setIfInBounds ct (.coro none)).setIfInBounds cb (.coro none)).push (.cells (cells.extract 0 11) ty))[i]?=some ob:=hi
  rw[Array.getElem?_push] at hi'
  split at hi'
  ·obtain rfl:=Option.some.inj hi';exact .inl rfl
  ·by_cases e2:cb=i
   ·subst e2
    rw[Array.getElem?_setIfInBounds_self_of_lt (by simpa using hcbl)] at hi'
    obtain rfl:=Option.some.inj hi';exact .inl rfl
   ·rw[Array.getElem?_setIfInBounds_ne e2] at hi'
    by_cases e1:ct=i
    ·subst e1
     rw[Array.getElem?_setIfInBounds_self_of_lt hctl] at hi'
     obtain rfl:=Option.some.inj hi';exact .inl rfl
    ·rw[Array.getElem?_setIfInBounds_ne e1] at hi'
     exact hnv i ob hi'
end
end Co
end Go.Proofs.Ytlngbdggehghgaa

namespace Go.Proofs.Ytlngbdggehghgaa
set_option linter.unusedSimpArgs false
set_option linter.unusedVariables false
namespace Co
open Go.Conc
open Go.ConcN (sumTo upd sumTo_upd upd_ne upd_same)
section
variable {P:Program} {Z:Goal} {h j:Nat} {X X':Fx} {κ:Kit} {g g':Gh} {B B':Nat} {A A':Nat→Prop} {T T0 U U0:Trace} {gs gs':Array Goroutine} {w w':World} {q q':Nat→Nat}
theorem seat_one {i:Nat} {s:Seat} (hg:g.Ok h) (hi:g.seat κ i=some s):s.Wf∧∃c,(∀c',s.has c'↔c'=c)∧((i=0∧∃x∈g.rs,c=x.cb)∨∃x∈g.sit,x.i=i∧c=x.ct):=by
 rcases seat_cases hi with⟨e,em⟩|⟨x,hx,e,rfl⟩
 ·obtain⟨x,hx,z,ok,home,rfl⟩:=hg.m0 s em
  exact⟨Seat.one_wf _ _ _ _,x.cb,fun c'=>Seat.one_has,.inl ⟨e,x,hx,rfl⟩⟩
 ·exact⟨Seat.one_wf _ _ _ _,x.ct,fun c'=>Seat.one_has,.inr ⟨x,hx,e,rfl⟩⟩
theorem seat_open (hg:g.Ok h) (hI:g.I w) {i c:Nat} {s:Seat} (hi:g.seat κ i=some s) (hc:s.has c):∃k,w.heap[c]?=some (.chan 0 #[] false k k false):=by
 obtain⟨_,c',h1,h2⟩:=seat_one hg hi
 obtain rfl:=(h1 c).1 hc
 rcases h2 with⟨_,x,hx,rfl⟩|⟨x,hx,_,rfl⟩
 ·exact hI.back x hx
 ·exact hI.turn x (sit_rs hx) fun hh=>gone_sit hg hh hx rfl
theorem ct_inj {l:List Wk} (hn:(l.map (·.ct)).Nodup) {x y:Wk} (hx:x∈l) (hy:y∈l) (e:x.ct=y.ct):x=y:=by
 induction l with
 |nil=>cases hx
 |cons b l ih=>
  simp only[List.map_cons,List.nodup_cons] at hn
  rcases List.mem_cons.1 hx with z1|z1<;>rcases List.mem_cons.1 hy with z2|z2
  ·rw[z1,z2]
  ·exact absurd (List.mem_map.2 ⟨y,z2,by rw[←e,z1]⟩) hn.1
  ·exact absurd (List.mem_map.2 ⟨x,z1,by rw[e,z2]⟩) hn.1
  ·exact ih hn.2 z1 z2
theorem seat_apart (hg:g.Ok h) {i i' c:Nat} {s s':Seat} (hi:g.seat κ i=some s) (hi':g.seat κ i'=some s') (hc:s.has c) (hc':s'.has c):i=i':=by
 obtain⟨_,c1,h1,h2⟩:=seat_one hg hi
 obtain⟨_,c2,h3,h4⟩:=seat_one hg hi'
 obtain rfl:=(h1 c).1 hc
 have e:=(h3 c).1 hc'
 subst e
 obtain⟨k1,k2,k3⟩:=List.nodup_append.1 hg.chn
 rcases h2 with⟨e1,x,hx,ex⟩|⟨x,hx,e1,ex⟩<;>rcases h4 with⟨e2,y,hy,ey⟩|⟨y,hy,e2,ey⟩
 ·rw[e1,e2]
 ·exact absurd (by rw[←ex,←ey]) (k3 y.ct (List.mem_map.2 ⟨y,sit_rs hy,rfl⟩) x.cb (List.mem_map.2 ⟨x,hx,rfl⟩))
 ·exact absurd (by rw[←ex,←ey]) (k3 x.ct (List.mem_map.2 ⟨x,sit_rs hx,rfl⟩) y.cb (List.mem_map.2 ⟨y,hy,rfl⟩))
 ·rw[←e1,←e2,ct_inj k1 (sit_rs hx) (sit_rs hy) (by rw[←ex,←ey])]
theorem core_of (hg:g.Ok h) (hI:g.I w) (hB:w.heap.size≤B) (hme:∀s,g.m0=some s→g.ear=true) (hh:h=0∨g.m0≠none) (hidle:∀i y,¬(i=h∨A i)→gs[i]?=some y→Idle P g.K g.Still B T0 i (q i) y (g.seat κ i)) (hab:∀i,gs.size≤i→Deaf T0 i=0)
 (hp:PastG g.Still g.Mem (g.fx P κ h).Lo B (Knows T0 h) T0) (hK:g.K w):Core P (g.fx P κ h) h B A T0 gs w q:=by
 refine⟨hidle,fun i s c _ hi hc=> ?_,fun i s hi=>(seat_one hg hi).1,fun _ _ hx=>hx.elim,fun i i' s s' c=>seat_apart hg,hab,fun i s hi=>⟨?_,fun c hc=> ?_⟩,fun i hi=> ?_,fun i s hi e=>⟨fun z=>hi (.inl z),.inl (by rw[show g.seat κ i=some s from e];rfl)⟩,hp,hK⟩
 ·obtain⟨k,e⟩:=seat_open hg hI hi hc
  exact⟨0,k,e⟩
 ·rcases seat_cases hi with⟨e,em⟩|⟨x,hx,e,_⟩
  ·exact .inl ⟨e,hme _ em⟩
  ·exact .inr ⟨x,hx,e⟩
 ·obtain⟨k,e⟩:=seat_open hg hI hi hc
  have:=(Array.getElem?_eq_some_iff.1 e).1
  omega
 ·rcases hi with⟨e,_⟩|⟨x,hx,e⟩
  ·subst e
   rcases hh with rfl|hm
   ·exact .inr (.inl rfl)
   ·refine .inl ?_
    show g.seat κ 0≠none
    unfold Gh.seat
    rw[if_pos rfl]
    exact hm
  ·refine .inl ?_
   show g.seat κ i≠none
   unfold Gh.seat
   have hx0:i≠0:=e▸hg.pos x (sit_rs hx)
   rw[if_neg hx0]
   cases hf:g.sit.find? (·.i==i) with
   |some y=>simp
   |none=>
    have:=List.find?_eq_none.1 hf x hx
    simp[e] at this
theorem keep_chan (hg:g.Ok h) {c k:Nat} (hc:hidOf g.hid c=some 0) (hw:w.heap[c]?=some (.chan 0 #[] false k k false)) (hoff:g.off=0):
 (g.K w→g.K (w.setChan c 0 #[] false (k+1) (k+1) false))∧(g.I w→g.I (w.setChan c 0 #[] false (k+1) (k+1) false))∧Seen (hidOf g.hid) w (w.setChan c 0 #[] false (k+1) (k+1) false)∧
  ∀r,r≠c→(w.setChan c 0 #[] false (k+1) (k+1) false).heap[r]?=w.heap[r]?:=by
 have hself:(w.setChan c 0 #[] false (k+1) (k+1) false).heap[c]?=some (.chan 0 #[] false (k+1) (k+1) false):=heap_setChan_self w hw _ _ _ _ _ _
 have hne:∀r,r≠c→(w.setChan c 0 #[] false (k+1) (k+1) false).heap[r]?=w.heap[r]?:=fun r hr=>heap_setChan_ne w _ _ _ _ _ _ (Ne.symm hr)
 have hcell:∀r n i (y:Value),hidOf g.hid r=some (n+1)→w.cell? ⟨r,i,none⟩=some y→(w.setChan c 0 #[] false (k+1) (k+1) false).cell? ⟨r,i,none⟩=some y:=by
  intro r n i y hr hy
  have:r≠c:=fun e=>by rw[e,hc] at hr;cases hr
  unfold World.cell? at hy⊢
  rw[hne r this]
  exact hy
 have hch:∀d:Nat,(∃k',w.heap[d]?=some (.chan 0 #[] false k' k' false))→∃k',(w.setChan c 0 #[] false (k+1) (k+1) false).heap[d]?=some (.chan 0 #[] false k' k' false):=by
  rintro d ⟨k',e⟩
  by_cases ed:d=c
  ·exact⟨k+1,by rw[ed];exact hself⟩
  ·exact⟨k',by rw[hne d ed];exact e⟩
 have hh:vis (hidOf g.hid) (w.setChan c 0 #[] false (k+1) (k+1) false).heap=vis (hidOf g.hid) w.heap:=by
  apply Array.ext_getElem?
  intro i
  rw[vis_get,vis_get]
  by_cases e:i=c
  ·subst e;rw[hself,hw,hc];rfl
  ·rw[hne i e]
 refine⟨fun hK x hx=>⟨hcell _ 10 _ _ (hg.r x hx).1 (hK x hx).1,hcell _ 10 _ _ (hg.r x hx).1 (hK x hx).2⟩,fun hI=>⟨fun e=>hcell _ 4 _ _ (hg.s e) (hI.sm e),fun e=> ?_,fun x hx=>hch _ (hI.back x hx),fun x hx hn=>hch _ (hI.turn x hx hn),fun x hx=> ?_⟩,
  ⟨hh,rfl,rfl,rfl,fun v hv=>⟨hv.heap.trans hh.symm,hv.os,hv.output,fun r n e=> ?_⟩,fun r o e p=>by
   by_cases er:r=c
   ·subst er;rw[hw] at e;cases e;cases p
   ·rw[hne r er];exact e⟩,hne⟩
 ·obtain⟨cc,t,e1⟩:=hI.fz e
  exact⟨cc,t,by rw[hne _ fun(z:g.s=c)=>by have h1:=hg.s e;rw[z,hc] at h1;cases h1];exact e1⟩
 ·unfold Gh.gone at hx
  rw[hoff] at hx
  cases hx
 ·by_cases er:r=c
  ·subst er;exact .inr (.inl ⟨_,_,_,_,_,_,hself⟩)
  ·rw[hne r er];exact hv.kinds r n e
theorem met_rel (h j:Nat) (fh:FuncId) (ph:String) (fj:FuncId) (pj:String) (c k cap:Nat):∀op∈met h j fh ph fj pj c k cap,∀a,op.act≠.mark (.release a):=by
 intro op hop a
 simp only[met,List.mem_toArray,List.mem_cons,List.not_mem_nil,or_false] at hop
 rcases hop with rfl|rfl|rfl|rfl<;>simp
theorem give_run (hg:g.Ok h) (hoff:g.off=0) (hgj:g.Ok j) (hjh:j≠h) (hme:∀s,g.m0=some s→g.ear=true) (hm0:g.m0≠none) {c:Nat} {z val z':Value} {ok:Bool} {home:Goroutine→Prop} {sh:Seat} (hj:g.seat κ j=some (Seat.one c z ok home)) (hh:g.seat κ h=some sh) {a a₂:Goroutine} (hrun:a.status=.running)
 (hsend:∀w,g.K w→stepG P (h==0) a w=.comm a₂ #[scase c val z'] true .send w #[]) {nh:Nat} (hafter:Sits P (h==0) g.K g.Still B sh nh (Go.Conc.served a₂ undef)):
 ∀(μ:Nat) (pk:Bool) (gs:Array Goroutine) (w:World) (sl:Option (Nat×Nat)) (T T0:Trace) (q:Nat→Nat),sumTo gs.size q+(if pk then 0 else 1)=μ→Core P (g.fx P κ h) h B (fun _=>False) T0 gs w q→g.I w→w.heap.size≤B→gs[h]?=some (if pk then parked a₂ #[scase c val z'] .send else a)→(pk=true→0<q j)→j<gs.size→
  Tr (hidOf g.hid) T T0→(∀k a,T0.act? k≠some (.mark (.release a)))→
  ∃(N:Nat) (gs':Array Goroutine) (w':World) (sl':Option (Nat×Nat)) (U:Trace) (q':Nat→Nat) (g₂:Goroutine),RunsBy P N (crowd gs w sl) (crowd gs' w' sl') U∧Tr (hidOf g.hid) (T++U) (T0++U)∧gs'.size=gs.size∧gs'[j]?=some (Go.Conc.served g₂ (recvd ok val true))∧home g₂∧
   Core P (g.fx P κ j) j B (fun _=>False) (T0++U) gs' w' q'∧g.I w'∧Seen (hidOf g.hid) w w'∧(∀r n,hidOf g.hid r=some (n+1)→w'.heap[r]?=w.heap[r]?)∧∀k a,(T0++U).act? k≠some (.mark (.release a)):=by
 have hsc:(Seat.one c z ok home).has c:=Seat.one_has.2 rfl
 have hch0:hidOf g.hid c=some 0:=chan_hid hg hj hsc
 intro μ
 induction μ using Nat.strongRecOn with
 |_ μ ih=>
  intro pk gs w sl T T0 q hμ C hI hB hgh hpk hjlt hT hrl
  obtain⟨gj,hgj'⟩:∃gj,gs[j]?=some gj:=⟨gs[j],Array.getElem?_eq_getElem hjlt⟩
  have hlth:h<gs.size:=(Array.getElem?_eq_some_iff.1 hgh).1
  have hSj:Sits P (j==0) g.K g.Still B (Seat.one c z ok home) (q j) gj:=by
   have:=C.idle j gj (fun z=>z.elim hjh id) hgj'
   rw[show(g.fx P κ h).Inb j=some (Seat.one c z ok home) from hj] at this
   exact this
  have haw:∀g∈gs,awake g:=CompA.awake (X:={g.fx P κ h with I:=fun _=>True,Ex:=fun _ _ _ _ _ _=>True}) (A:=fun _=>False) ⟨C,trivial,id,fun _ _ hf=>hf.elim,trivial⟩ hgh (by cases pk<;>simp[hrun,parked])
  have hsome:∃(i:Nat) (gi:Goroutine),gs[i]?=some gi∧gi.status=.running:=by
   cases pk with
   |false=>exact⟨h,a,by simpa using hgh,hrun⟩
   |true=>exact⟨j,gj,hgj',(Sits.status C.keep hSj).elim (·.1) (fun z=>by have:=hpk rfl;omega)⟩
  obtain⟨i,gi,d,sl',hi,hgr,hpick⟩:=crowd_pick (P:=P) (w:=w) (sl:=sl) haw hsome
  have Cd:Core P (g.fx P κ h) h B (fun _=>False) T0 gs (w.at d) q:=TokCore.at (fun _ _ hk=>hk) C d
  obtain⟨k,hck⟩:=seat_open hg hI hj hsc
  have hcd:(w.at d).heap[c]?=some (.chan 0 #[] false k k false):=hck
  have hMh:g.Mem h:=(C.mem h sh hh).1
  obtain⟨hMj,hcB'⟩:=C.mem j _ hj
  have hcB:=hcB' c hsc
  obtain⟨c1,c2,c3,c4⟩:=keep_chan (w:=w.at d) hg hch0 hcd hoff
  have fin:∀(gs':Array Goroutine) (ops₀:Trace) (g₂:Goroutine),gs'.size=gs.size→(∀x,x≠h→x≠j→gs'[x]?=gs[x]?)→gs'[h]?=some (Go.Conc.served a₂ undef)→gs'[j]?=some (Go.Conc.served g₂ (recvd ok val true))→home g₂→
   PastG g.Still g.Mem (g.fx P κ h).Lo B (Knows (T0++ops₀) h) (T0++ops₀)→(∀x,Deaf (T0++ops₀) x=Deaf T0 x)→(∀op∈ops₀,∀y,op.act.touch?=some y→g.Still y.loc)→(∀op∈ops₀,∀ad,op.act≠.mark (.release ad))→
   runT P (crowd gs (w.at d) sl') i=(.next (crowd gs' ((w.at d).setChan c 0 #[] false (k+1) (k+1) false) sl'),ops₀++met h j a₂.frame.fn a₂.frame.place g₂.frame.fn g₂.frame.place c k 0)→
   ∃(N:Nat) (gs':Array Goroutine) (w':World) (sl':Option (Nat×Nat)) (U:Trace) (q':Nat→Nat) (g₂:Goroutine),RunsBy P N (crowd gs w sl) (crowd gs' w' sl') U∧Tr (hidOf g.hid) (T++U) (T0++U)∧gs'.size=gs.size∧gs'[j]?=some (Go.Conc.served g₂ (recvd ok val true))∧home g₂∧
    Core P (g.fx P κ j) j B (fun _=>False) (T0++U) gs' w' q'∧g.I w'∧Seen (hidOf g.hid) w w'∧(∀r n,hidOf g.hid r=some (n+1)→w'.heap[r]?=w.heap[r]?)∧∀k a,(T0++U).act? k≠some (.mark (.release a)):=by
   intro gs' ops₀ g₂ hsz hoth hH hJ hhome p1 hD0 ht0 hr0 hrt
   have hDeaf:∀x,Deaf (T0++(ops₀++met h j a₂.frame.fn a₂.frame.place g₂.frame.fn g₂.frame.place c k 0)) x=Deaf T0 x:=fun x=>by rw[←Array.append_assoc,Deaf_quiet (met_quiet _ _ _ _ _ _ _ _ _ x),hD0]
   have p2:=PastH.give (show PastH g.Still g.Mem (g.fx P κ h).Lo B h (T0++ops₀) from p1) hMh hMj a₂.frame.fn a₂.frame.place g₂.frame.fn g₂.frame.place k 0 hcB
   rw[Array.append_assoc] at p2
   have hmt:=met_mute h j a₂.frame.fn a₂.frame.place g₂.frame.fn g₂.frame.place c k 0
   have hmr:=met_rel h j a₂.frame.fn a₂.frame.place g₂.frame.fn g₂.frame.place c k 0
   refine⟨1,gs',_,sl',_,upd q h nh,g₂,RunsBy.head (hpick.trans hrt) (RunsBy.refl _), ?_,hsz,hJ,hhome, ?_,c2 (hg.keepI (hs_at w d) hI),(Seen.at w d).trans c3,(fun r n hr=>c4 r (fun e=>by rw[e,hch0] at hr;cases hr)), ?_⟩
   ·rw[Array.append_empty]
    refine hT.plain fun op hop y hy=> ?_
    rcases Array.mem_append.1 hop with hop|hop
    ·exact hg.wg (ht0 op hop y hy)
    ·rw[hmt op hop] at hy;cases hy
   ·rw[Array.append_empty]
    refine core_of hgj (c2 (hg.keepI (hs_at w d) hI)) (by rw[((Seen.at w d).trans c3).size];exact hB) hme (.inr hm0) (fun x y hx hy=> ?_) (fun x hx=> ?_) ?_ (c1 C.keep)
    ·have hxj:x≠j:=fun e=>hx (.inl e)
     by_cases e:x=h
     ·subst e
      rw[hH] at hy
      obtain rfl:=Option.some.inj hy
      rw[upd_same,hh]
      exact hafter
     ·rw[hoth x e hxj] at hy
      rw[upd_ne q nh e]
      have hid:=C.idle x y (fun z=>z.elim e id) hy
      cases es:g.seat κ x with
      |none=>rw[show(g.fx P κ h).Inb x=none from es] at hid;exact⟨hid.1,by rw[hDeaf];exact hid.2⟩
      |some s=>rw[show(g.fx P κ h).Inb x=some s from es] at hid;exact hid
    ·rw[hDeaf];exact C.above x (by omega)
    ·exact PastG.loosen p2 fun x hx=>⟨hx.2,hx.1.2⟩
   ·rw[Array.append_empty]
    refine norel_app hrl fun op hop=> ?_
    rcases Array.mem_append.1 hop with hop|hop
    ·exact hr0 op hop
    ·exact hmr op hop
  have on:∀(gs':Array Goroutine) (U:Trace) (q':Nat→Nat) (pk':Bool),runT P (crowd gs (w.at d) sl') i=(.next (crowd gs' (w.at d) sl'),U)→(∀op∈U,∀y,op.act.touch?=some y→g.Still y.loc)→(∀op∈U,∀ad,op.act≠.mark (.release ad))→gs'.size=gs.size→Core P (g.fx P κ h) h B (fun _=>False) (T0++U) gs' (w.at d) q'→
   sumTo gs.size q'+(if pk' then 0 else 1)<μ→gs'[h]?=some (if pk' then parked a₂ #[scase c val z'] .send else a)→(pk'=true→0<q' j)→
   ∃(N:Nat) (gs':Array Goroutine) (w':World) (sl':Option (Nat×Nat)) (U:Trace) (q':Nat→Nat) (g₂:Goroutine),RunsBy P N (crowd gs w sl) (crowd gs' w' sl') U∧Tr (hidOf g.hid) (T++U) (T0++U)∧gs'.size=gs.size∧gs'[j]?=some (Go.Conc.served g₂ (recvd ok val true))∧home g₂∧
    Core P (g.fx P κ j) j B (fun _=>False) (T0++U) gs' w' q'∧g.I w'∧Seen (hidOf g.hid) w w'∧(∀r n,hidOf g.hid r=some (n+1)→w'.heap[r]?=w.heap[r]?)∧∀k a,(T0++U).act? k≠some (.mark (.release a)):=by
   intro gs' U q' pk' hrt ht hr hsz C' hlt h0 hp'
   obtain⟨N,gs2,w2,sl2,U2,q2,g2,k1,k2,k3,k4,k5,k6,k7,k8,k9,k10⟩:=ih _ hlt pk' gs' (w.at d) sl' (T++U) (T0++U) q' (by rw[hsz]) C' (hg.keepI (hs_at w d) hI) hB h0 hp' (by omega) (hT.plain fun op hop y hy=>hg.wg (ht op hop y hy)) (norel_app hrl hr)
   exact⟨N+1,gs2,w2,sl2,U++U2,q2,g2,k1.head (hpick.trans hrt),by rw[←Array.append_assoc,←Array.append_assoc];exact k2,k3.trans hsz,k4,k5,by rw[←Array.append_assoc];exact k6,k7,(Seen.at w d).trans k8,fun r n hr=>k9 r n hr,by rw[←Array.append_assoc];exact k10⟩
  by_cases e:i=h
  ·--the holder's step
   subst e
   cases pk with
   |true=>rw[hgh] at hi;obtain rfl:=Option.some.inj hi;cases hgr
   |false=>
    rw[hgh] at hi
    obtain rfl:=Option.some.inj hi
    simp only[Bool.false_eq_true,if_false] at hgh hgr
    have hst:=hsend _ Cd.keep
    have hoffs:∀(x:Nat) (y:Goroutine),x≠j→(gs.setIfInBounds i ph)[x]?=some y→offersAt y c false=[]:=by
     intro x y hxj hy
     rcases getElem?_stand gs i x y hy with⟨_,rfl⟩|⟨hx,hy'⟩
     ·exact offersAt_ph _ _
     ·exact TokCore.noRecvAt Cd (fun z=>z.elim hx id) hy' fun s' hs' hc'=>hxj (C.inj x j s' _ c hs' hj hc' hsc)
    rcases hSj with⟨kk,w₀,hq,hG⟩|⟨hq0,g₀,g₂,rfl,hat⟩
    ·--j is on its way:the holder is parked at its send
     have hjr:gj.status=.running:=(Sits.status C.keep (.inl ⟨kk,w₀,hq,hG⟩)).elim (·.1) (fun z=>by omega)
     have hp:partners (gs.setIfInBounds i ph) c false=[]:=partners_nil fun x y hy=>by
      by_cases hxj:x=j
      ·subst hxj
       rw[stand_get hjh hgj'] at hy
       obtain rfl:=Option.some.inj hy
       exact offersAt_of_not_blocked (by rw[hjr];simp) _ _
      ·exact hoffs x y hxj hy
     have hw:∀cc∈#[scase c val z'],NoWays (w.at d) (gs.setIfInBounds i ph) cc:=by
      intro cc hcc
      simp only[List.mem_toArray,List.mem_cons,List.not_mem_nil,or_false] at hcc
      subst hcc
      exact ways_send_none hcd (Nat.le_refl _) hp
     have hrt:=crowd_waits (sl:=sl') hgh hst hw
     have e0:MemOp.ofEvents i a.frame.fn a.frame.place #[]=#[]:=by simp[MemOp.ofEvents]
     rw[e0] at hrt
     refine on _ #[] q true hrt (by simp) (by simp) (by simp) ?_ ?_ (Array.getElem?_setIfInBounds_self_of_lt hlth) (fun _=>by omega)
     ·rw[Array.append_empty]
      refine⟨fun x y hx hy=> ?_,Cd.chans,Cd.wf,fun _ _ z=>z.elim,Cd.inj,fun x hx=>Cd.above x (by simpa using hx),Cd.mem,Cd.nomem,Cd.lo,Cd.past,Cd.keep⟩
      rw[Array.getElem?_setIfInBounds_ne (fun e=>hx (.inl e.symm))] at hy
      exact Cd.idle x y hx hy
     ·simp at hμ⊢;omega
    ·--j is parked:the meeting
     have hp:partners (gs.setIfInBounds i ph) c false=[(j,0)]:=by
      rw[partners_one (stand_get hjh hgj') fun x y hxj hy=>hoffs x y hxj hy]
      rw[show(Seat.one c z ok home).cases=#[rcase c z] from rfl,offersAt_parked_recv,if_pos rfl]
      rfl
     have hrt:=crowd_send_meets_sel (sl:=sl') (k:=0) (zj:=z) hgh hst hcd hjh hgj' rfl hp
     have e0:MemOp.ofEvents i a.frame.fn a.frame.place #[]=#[]:=by simp[MemOp.ofEvents]
     rw[e0] at hrt
     refine fin _ #[] g₂ ?_ ?_ ?_ ?_ hat.2.2.2.2.1 (by rw[Array.append_empty];exact C.past) (fun x=>by rw[Array.append_empty]) (by simp) (by simp) hrt
     ·simp
     ·intro x hx hxj
      rw[Array.getElem?_setIfInBounds_ne (fun z=>hx z.symm),Array.getElem?_setIfInBounds_ne (fun z=>hxj z.symm)]
     ·exact Array.getElem?_setIfInBounds_self_of_lt (by simpa using hlth)
     ·rw[Array.getElem?_setIfInBounds_ne (fun z=>hjh z.symm),Array.getElem?_setIfInBounds_self_of_lt hjlt,finishComm_served,show(Seat.one c z ok home).cases=#[rcase c z] from rfl,show(Seat.one c z ok home).shape=.recv ok from rfl,commResult_one]
  ·by_cases ej:i=j∧pk=true∧∃g₂,AtIn P (i==0) g.K g.Still B (Seat.one c z ok home) gi g₂
   ·--j comes to its receive and meets the parked holder
    obtain⟨rfl,rfl,g₂,hat⟩:=ej
    obtain⟨_,_,_,_,hhome,esj,hesj,hstp⟩:=hat
    obtain⟨hops,hr,hl,hd⟩:=evC_ops (i:=i) (fn:=gi.frame.fn) (pos:=gi.frame.place) hesj
    simp only[if_true] at hgh
    have hp:partners (gs.setIfInBounds i ph) c true=[(h,0)]:=by
     rw[partners_one (stand_get (Ne.symm hjh) hgh) fun x y hxh hy=>by
      rcases getElem?_stand gs i x y hy with⟨_,rfl⟩|⟨_,hy'⟩
      ·exact offersAt_ph _ _
      ·exact TokCore.noSend Cd (fun z=>z.elim hxh id) hy' _]
     simp[offersAt_parked_send]
    have hrt:=crowd_recv_meets (sl:=sl') hi (hstp _ Cd.keep) hcd (Ne.symm hjh) hgh hp
    refine fin _ _ g₂ ?_ ?_ ?_ ?_ hhome ?_ ?_ (fun op hop y hy=>(hr op hop y hy).2) (fun op hop ad=>evc_rel hesj op hop ad) hrt
    ·simp
    ·intro x hx hxj
     rw[Array.getElem?_setIfInBounds_ne (fun z=>hxj z.symm),Array.getElem?_setIfInBounds_ne (fun z=>hx z.symm)]
    ·rw[Array.getElem?_setIfInBounds_ne hjh,Array.getElem?_setIfInBounds_self_of_lt hlth,finishComm_send]
    ·rw[Array.getElem?_setIfInBounds_self_of_lt (by simpa using hjlt),finishComm_served,show(Seat.one c z ok home).shape=.recv ok from rfl,commResult_one]
    ·exact PastH.appRead (show PastH g.Still g.Mem (g.fx P κ h).Lo B h T0 from C.past) hMj ⟨hjh,.inl (by rw[hj];rfl)⟩ hops hr (hd T0) hl
    ·intro x
     by_cases ex:x=i
     ·subst ex;exact hd T0
     ·exact Deaf_other T0 (fun z=>ex z.symm) _ hops
   ·--a bystander's step
    have hspn:¬(i=h∨False):=fun z=>z.elim e id
    have hO:∀s' g₂,(g.fx P κ h).Inb i=some s'→AtIn P (i==0) (g.fx P κ h).K (g.fx P κ h).Still B s' gi g₂→∀x gx c',(x=h∨False)→gs[x]?=some gx→s'.has c'→offersAt gx c' true=[]:=by
     intro s' g₂ hs' hat x gx c' hx hgx hc'
     obtain rfl:=hx.elim id False.elim
     rw[hgh] at hgx
     obtain rfl:=Option.some.inj hgx
     cases pk with
     |false=>exact offersAt_of_not_blocked (by simp[hrun]) _ _
     |true=>
      simp only[if_true]
      rw[offersAt_parked_send,if_neg]
      intro ec
      have hij:i=j:=C.inj i j s' _ c hs' hj (ec▸hc') hsc
      subst hij
      rw[show(g.fx P κ x).Inb i=some (Seat.one c z ok home) from hj] at hs'
      obtain rfl:=Option.some.inj hs'
      exact ej ⟨rfl,rfl,g₂,hat⟩
    have hops:=by_ops (sl:=sl') Cd hi hspn hgr hO
    obtain⟨gs',ops,q',hrt,hsz',hsp,hqo,hq0,C',hlt⟩:=TokCore.by_step (sl:=sl') (fun t u i=>Knows.app u) Cd hi hspn hgr
     (fun x gx hx hgx=>by
      obtain rfl:=hx.elim id False.elim
      rw[hgh] at hgx;obtain rfl:=Option.some.inj hgx
      cases pk with
      |false=>exact again_of_running (.inl hrun) _
      |true=>exact again_send_open hcd) (fun hD=>hD.elim) (fun s' g₂ hs' hat=>⟨fun hD=>hD,fun x gx c' hx hgx hc'=>hO s' g₂ hs' hat x gx c' hx hgx hc'⟩)
    rw[hrt] at hops
    refine on gs' ops q' pk hrt (fun op hop y hy=>((hops op hop).2.2 y hy).1) (fun op hop=>(hops op hop).2.1) hsz' C' (by omega) (by rw[hsp h (.inl rfl)];exact hgh) fun hp=> ?_
    subst hp
    by_cases hij:j=i
    ·subst hij
     rcases Nat.eq_zero_or_pos (q' j) with h0|h0
     ·obtain⟨g₂,hat⟩:=hq0 _ hj h0
      exact absurd ⟨rfl,rfl,g₂,hat⟩ ej
     ·exact h0
    ·rw[hqo j hij];exact hpk rfl
theorem open_ex (hoff:g.off=0) (C:CompA P (g.fx P κ h) h B A T0 gs w q):(∀i,¬A i)∧Core P (g.fx P κ h) h B (fun _=>False) T0 gs w q:=by
 have E:g.Ex P κ B A T0 gs w q:=C.ex
 have hAn:∀i,¬A i:=fun i hi=>by
  obtain⟨x,hx,_⟩:=E.sub i hi
  unfold Gh.gone at hx
  rw[hoff] at hx
  cases hx
 have hA:A=fun _=>False:=funext fun i=>propext ⟨hAn i,False.elim⟩
 refine⟨hAn, ?_⟩
 rw[←hA]
 exact C.core
theorem open_comp (hoff:g.off=0) (hear:g.ear=true) (C:Core P (g.fx P κ h) h B (fun _=>False) T0 gs w q) (hI:g.I w) (hst:g.on=true→w.cell? (c5 g.s)=some (.int .u64 ((g.cnt:Int)*KK))) (hS:g.on=true→g.s<B) (hr:∀k a,T0.act? k≠some (.mark (.release a))):Comp P (g.fx P κ h) h B T0 gs w q:=by
 have hg0:g.gone=[]:=by unfold Gh.gone;rw[hoff];rfl
 refine⟨fun _=>False,C,⟨fun _ hf=>hf.elim,fun x hx=> ?_,fun x hx=> ?_,fun e=> ?_, ?_,fun x hx=> ?_,hS,fun e=> ?_,hr⟩,id,fun _ _ hf=>hf.elim,hI⟩
 ·rw[hg0] at hx;cases hx
 ·rw[hg0] at hx;cases hx
 ·rw[hg0];simpa[busy] using hst e
 ·rw[hg0];simp[busy]
 ·rw[hg0] at hx;cases hx
 ·rw[hear] at e;cases e
theorem open_st (hoff:g.off=0) (C:CompA P (g.fx P κ h) h B A T0 gs w q) (hon:g.on=true):w.cell? (c5 g.s)=some (.int .u64 ((g.cnt:Int)*KK)):=by
 have E:g.Ex P κ B A T0 gs w q:=C.ex
 have:=E.st hon
 have hg0:g.gone=[]:=by unfold Gh.gone;rw[hoff];rfl
 rw[hg0] at this
 simpa[busy] using this
theorem co_give (hZ:Z.Ok P) (hg:g.Ok h) (hoff:g.off=0) (hear:g.ear=true) (hgj:g.Ok j) (hjh:j≠h) (hjn:j<g.n) (hm0:g.m0≠none) {c:Nat} {z val z':Value} {ok:Bool} {home:Goroutine→Prop} {sh:Seat} (hj:g.seat κ j=some (Seat.one c z ok home)) (hh:g.seat κ h=some sh) {a a₂:Goroutine} (hrun:a.status=.running) {v:World}
 (hsend:∀w,g.K w→stepG P (h==0) a w=.comm a₂ #[scase c val z'] true .send w #[]) (hafter:∀B,(∀x∈g.rs,x.r<B)→∃nh,Sits P (h==0) g.K g.Still B sh nh (Go.Conc.served a₂ undef))
 (hc:∀g₂,home g₂→Co P Z j (g.fx P κ j) (Go.Conc.served g₂ (recvd ok val true)) v):Co P Z h (g.fx P κ h) a v:=by
 intro T T0 gs w sl q hT hi hga
 obtain⟨A,C⟩:=hi.comp
 have E:g.Ex P κ w.heap.size A T0 gs w q:=C.ex
 have C0:=(open_ex hoff C).2
 obtain⟨nh,hn⟩:=hafter w.heap.size fun x hx=>by have:=hi.size x.r 11 (hg.r x hx).1;rw[hi.vis.size] at this;exact this
 obtain⟨N,gs',w',sl',U,q',g₂,k1,k2,k3,k4,k5,k6,k7,k8,k9,k10⟩:=give_run (sh:=sh) (nh:=nh) hg hoff hgj hjh (fun _ _=>hear) hm0 hj hh hrun hsend hn _ false gs w sl T T0 q rfl C0 C.inv (Nat.le_refl _) (by simpa using hga) (by simp) (by rw[hi.n];exact hjn) hT E.norel
 refine hZ.back N _ _ U T k1 (hc g₂ k5 (T++U) (T0++U) gs' w' sl' q' k2 ⟨?_,k3.trans hi.n,k8.kinds v hi.vis,hi.nv,hi.size,hi.old.seen k8⟩ k4)
 rw[k8.size]
 refine open_comp hoff hear k6 k7 (fun e=> ?_) E.lowS k10
 have:=open_st hoff C e
 unfold World.cell? at this⊢
 rw[show(c5 g.s).block=g.s from rfl,k9 g.s 4 (hg.s e)]
 exact this
def Gh.main (g:Gh) (m:Option Seat):Gh:={g with m0:=m}
theorem co_main (hg:g.Ok 0) (hoff:g.off=0) (hear:g.ear=true) {m:Option Seat} (hg':(g.main m).Ok 0) {a:Goroutine} {v:World} (hc:Co P Z 0 ((g.main m).fx P κ 0) a v):Co P Z 0 (g.fx P κ 0) a v:=by
 intro T T0 gs w sl q hT hi hga
 refine hc T T0 gs w sl q hT ⟨?_,hi.n,hi.vis,hi.nv,hi.size,hi.old⟩ hga
 obtain⟨A,C⟩:=hi.comp
 have E:g.Ex P κ w.heap.size A T0 gs w q:=C.ex
 have C0:=(open_ex hoff C).2
 have hI:(g.main m).I w:=⟨C.inv.sm,C.inv.fz,C.inv.back,C.inv.turn,C.inv.shut⟩
 have hs:∀i,i≠0→(g.main m).seat κ i=g.seat κ i:=fun i hi=>by unfold Gh.seat;rw[if_neg hi,if_neg hi];rfl
 refine open_comp (g:=g.main m) hoff hear (core_of hg' hI (Nat.le_refl _) (fun _ _=>hear) (.inl rfl) (fun i y hi hy=> ?_) C0.above (PastG.loosen C0.past fun i hi'=>⟨hi'.1, ?_⟩) C0.keep) hI (fun(e:g.on=true)=>open_st (g:=g) hoff C e) E.lowS E.norel
 ·rw[hs i fun e=>hi (.inl e)]
  exact C0.idle i y hi hy
 ·rw[hs i hi'.1];exact hi'.2
def Gh.start (g:Gh):Gh:={g with up:=g.up+1,n:=g.n+1}
theorem co_spawn (hZ:Z.Ok P) (hκ:κ.Ok P) (hg:g.Ok 0) (hoff:g.off=0) (hm0:g.m0=none) (hear:g.ear=true) {x:Wk} (hx:g.rs[g.up]?=some x) (hxi:x.i=g.n) {a a' child:Goroutine} {v:World} (hrun:a.status=.running) (hst:∀w,stepG P true a w=.spawn a' child w #[])
 (hchild:∀B,x.r<B→∃n,Sits P false g.K g.Still B (κ.seat g.s x) n child) (hc:Co P Z 0 (g.start.fx P κ 0) a' v):g.start.Ok 0∧Co P Z 0 (g.fx P κ 0) a v:=by
 obtain⟨hlt,hget⟩:=List.getElem?_eq_some_iff.1 hx
 have hxr:x∈g.rs:=List.mem_of_getElem? hx
 have htk:g.rs.take (g.up+1)=g.rs.take g.up++[x]:=by rw[List.take_add_one,hx];rfl
 have hg':g.start.Ok 0:=⟨hg.s,hg.r,hlt,hg.pos,hg.inj,.inl hoff,hg.ear,hg.chn,fun y hy=>by
  have hy':y∈g.rs.take (g.up+1):=hy
  rw[htk] at hy'
  show y.i<g.n+1
  rcases List.mem_append.1 hy' with h1|h1
  ·have:=hg.num y h1;omega
  ·simp only[List.mem_cons,List.not_mem_nil,or_false] at h1
   subst h1;omega,hg.few,hg.m0⟩
 refine⟨hg',co_turn hZ (hg.fx hκ) hrun fun T T0 gs w sl q hT hi hga=> ?_⟩
 obtain⟨A,C⟩:=hi.comp
 have E:g.Ex P κ w.heap.size A T0 gs w q:=C.ex
 have C0:=(open_ex hoff C).2
 have hsit:g.start.sit=g.sit++[x]:=by
  show(g.rs.take (g.up+1)).drop g.off=(g.rs.take g.up).drop g.off++[x]
  rw[htk,hoff]
  rfl
 have hx0:x.i≠0:=hg.pos x hxr
 have hnx:∀y∈g.sit,y.i≠x.i:=fun y hy e=>by
  have:=hg.num y (List.mem_of_mem_drop hy)
  omega
 have hsx:g.start.seat κ x.i=some (κ.seat g.s x):=by
  unfold Gh.seat
  rw[if_neg hx0,hsit,List.find?_append]
  have:g.sit.find? (·.i==x.i)=none:=List.find?_eq_none.2 fun y hy=>by simpa using hnx y hy
  rw[this]
  simp
  rfl
 have hso:∀i,i≠x.i→g.start.seat κ i=g.seat κ i:=fun i hi=>by
  unfold Gh.seat
  by_cases e:i=0
  ·rw[if_pos e,if_pos e];rfl
  ·rw[if_neg e,if_neg e,hsit,List.find?_append]
   have:(x.i==i)=false:=by simpa using fun z=>hi (Eq.symm z)
   cases hf:g.sit.find? (·.i==i) with
   |some y=>rfl
   |none=>simp[this]
 have hlt0:0<gs.size:=(Array.getElem?_eq_some_iff.1 hga).1
 have hrt:=runT_crowd_spawn (P:=P) (sl:=sl) (i:=0) hga (by simpa using hst w)
 have e0:MemOp.ofEvents 0 a.frame.fn a.frame.place #[]=#[]:=by simp[MemOp.ofEvents]
 rw[e0] at hrt
 have hn:gs.size=x.i:=by rw[hi.n,hxi];rfl
 generalize hU:((#[]:Trace).push {g:=0,fn:=a.frame.fn,pos:=a.frame.place,act:=.go gs.size}|>.push {g:=gs.size,fn:=child.frame.fn,pos:=a.frame.place,act:=.start})=U at hrt
 have eU:U=#[{g:=0,fn:=a.frame.fn,pos:=a.frame.place,act:=.go gs.size},{g:=gs.size,fn:=child.frame.fn,pos:=a.frame.place,act:=.start}]:=by subst hU;rfl
 have hmt:∀op∈U,op.act.touch?=none∧∀ad,op.act≠.mark (.release ad):=by
  intro op hop
  rw[eU] at hop
  simp only[List.mem_toArray,List.mem_cons,List.not_mem_nil,or_false] at hop
  rcases hop with rfl|rfl<;>exact⟨rfl,fun _=>by simp⟩
 have hq:∀i,∀op∈U,∀d,deafStep i d op=d:=by
  intro i op hop d
  rw[eU] at hop
  simp only[List.mem_toArray,List.mem_cons,List.not_mem_nil,or_false] at hop
  rcases hop with rfl|rfl<;>rfl
 have hD:∀i,Deaf (T0++U) i=Deaf T0 i:=fun i=>Deaf_quiet (hq i)
 have p1:=PastH.hire (show PastH g.Still g.Mem (g.fx P κ 0).Lo w.heap.size 0 T0 from C0.past) (c:=gs.size) (.inl ⟨rfl,hear⟩) (C0.above _ (Nat.le_refl _)) a.frame.fn a.frame.place child.frame.fn
 rw[←eU] at p1
 obtain⟨nc,hnc⟩:=hchild w.heap.size (by have:=hi.size x.r 11 (hg.r x hxr).1;rw[hi.vis.size] at this;exact this)
 have hI:g.start.I w:=⟨C.inv.sm,C.inv.fz,C.inv.back,fun y hy hn=>C.inv.turn y hy fun hh=>hn hh,C.inv.shut⟩
 have hpast:PastG g.start.Still g.start.Mem (g.start.fx P κ 0).Lo w.heap.size (Knows (T0++U) 0) (T0++U):=by
  refine PastG.loosen (PastG.fewer p1 fun i hi=> ?_) fun i hi=> ?_
  ·rcases hi with hi|⟨y,hy,e⟩
   ·exact .inl (.inl hi)
   ·rw[hsit] at hy
    rcases List.mem_append.1 hy with hy|hy
    ·exact .inl (.inr ⟨y,hy,e⟩)
    ·simp only[List.mem_cons,List.not_mem_nil,or_false] at hy
     subst hy
     exact .inr (by rw[←e,hn])
  ·rcases hi with⟨h1,h2⟩|rfl
   ·refine⟨h1, ?_⟩
    by_cases e:i=x.i
    ·exact .inl (by rw[e,hsx];rfl)
    ·rw[hso i e];exact h2
   ·rw[hn]
    exact⟨hx0,.inl (by rw[hsx];rfl)⟩
 refine⟨_,w,sl,U,T0++U,upd q x.i nc,g.start.fx P κ 0,0,a',v,hrt,(show Tr (hidOf g.hid) (T++U) (T0++U) from Tr.plain (show Tr (hidOf g.hid) T T0 from hT) fun op hop y hy=>by rw[(hmt op hop).1] at hy;cases hy),⟨?_, ?_,hi.vis,hi.nv,hi.size,hi.old⟩, ?_,hc⟩
 ·refine open_comp (g:=g.start) hoff hear (core_of hg' hI (Nat.le_refl _) (fun _ _=>hear) (.inl rfl) (fun i y hi' hy=> ?_) (fun i hi'=> ?_) hpast C0.keep) hI (fun(e:g.on=true)=>open_st (g:=g) hoff C e) E.lowS (norel_app E.norel fun op hop=>(hmt op hop).2)
  ·have hi0:i≠0:=fun e=>hi' (.inl e)
   by_cases e:i=x.i
   ·subst e
    rw[Array.getElem?_push,if_pos (by simp[hn])] at hy
    obtain rfl:=Option.some.inj hy
    rw[upd_same,hsx]
    show Sits P (x.i==0) g.K g.Still _ _ nc child
    rw[show(x.i==0)=false by simp[hx0]]
    exact hnc
   ·have hne:i≠gs.size:=by rw[hn];exact e
    rw[Array.getElem?_push,if_neg (by simpa using hne),Array.getElem?_setIfInBounds_ne (Ne.symm hi0)] at hy
    rw[upd_ne q nc e,hso i e]
    have hid:=C0.idle i y (fun z=>z.elim hi0 id) hy
    cases es:g.seat κ i with
    |none=>rw[show(g.fx P κ 0).Inb i=none from es] at hid;exact⟨hid.1,by rw[hD];exact hid.2⟩
    |some s=>rw[show(g.fx P κ 0).Inb i=some s from es] at hid;exact hid
  ·rw[hD]
   exact C0.above i (by simp at hi';omega)
 ·simp[hi.n]
  rfl
 ·rw[Array.getElem?_push,if_neg (by simp;omega)]
  exact Array.getElem?_setIfInBounds_self_of_lt hlt0
end
end Co
end Go.Proofs.Ytlngbdggehghgaa

namespace Go.Proofs.Ytlngbdggehghgaa
set_option linter.unusedSimpArgs false
set_option linter.unusedVariables false
namespace Co
open Go.Conc
open Go.ConcN (sumTo upd sumTo_upd upd_ne upd_same)
def ends (P:Program) (O:Array Obj) (Post:Value→World→Prop):Goal where
 old:=O
 E:=fun m T=> ∃N last o w' t',runNT P (N+1) m T=(.ended o w',t')∧runN P N m=.next last∧step P last=.ended o w'∧Good P Post last o w' t'
section
variable {O:Array Obj} {P:Program} {Post:Value→World→Prop} {κ:Kit} {g:Gh}
theorem runN_then {N N':Nat} {m m':Machine} {U:Trace} (h:RunsBy P N m m' U):runN P (N+N') m=runN P N' m':=by
 have h1:=h #[]
 rw[←runNT_fst P (N+N') m #[],runNT_add,h1]
 rw[runNT_fst]
theorem ends_ok:(ends P O Post).Ok P where
 back:=fun N m m' U T h ⟨N',last,o,w',t',h1,h2,h3,h4⟩=>by
  refine⟨N+N',last,o,w',t', ?_, ?_,h3,h4⟩
  ·rw[Nat.add_assoc,runNT_add,h T]
   exact h1
  ·rw[runN_then h];exact h2
theorem co_last (hκ:κ.Ok P) (hg:g.Ok 0) (hrs:g.rs=[]) (hm0:g.m0=none) (hear:g.ear=true) {a:Goroutine} {v:World} {x:Value} (hrun:a.status=.running) (hst:∀w,stepG P true a w=.ended (.done x) w #[]) (hp:∀w,Vis (hidOf g.hid) w v→OldOk O (hidOf g.hid) w→Post x w):
 Co P (ends P O Post) 0 (g.fx P κ 0) a v:=by
 intro T T0 gs w sl q hT hi hga
 obtain⟨N,gs₁,w₀,w₁,sl₀,sl₁,U,U0,q₁,h1,h2,h3,h4,h5,h6⟩:=one_step (sl:=sl) (hg.fx hκ) hrun hT hi hga
 have hend:=runT_many_ended (P:=P) (sl:=sl₁) (i:=0) h3 (show stepG P (0==0) a w₁=_ from hst w₁)
 have e0:MemOp.ofEvents 0 a.frame.fn a.frame.place #[]=#[]:=by simp[MemOp.ofEvents]
 rw[e0] at hend
 have hgone:g.gone=[]:=by unfold Gh.gone;rw[hrs];simp
 have hsit:g.sit=[]:=by unfold Gh.sit;rw[hrs];simp
 have hno:∀i,g.seat κ i=none:=fun i=>by
  unfold Gh.seat
  rw[hsit]
  by_cases e:i=0
  ·rw[if_pos e];exact hm0
  ·rw[if_neg e];rfl
 obtain⟨A,C⟩:=h5.comp
 have E:g.Ex P κ w₁.heap.size A (T0++U0) gs₁ w₁ q₁:=C.ex
 have hAn:∀i,¬A i:=fun i hi=>by
  obtain⟨y,hy,_⟩:=E.sub i hi
  rw[hgone] at hy;cases hy
 have hidle:∀i y,i≠0→gs₁[i]?=some y→0<i∧QuitsD P (q₁ i) (Deaf (T0++U0) i) y:=fun i y hi' hy=>by
  have:=C.core.idle i y (fun z=>z.elim hi' (hAn i)) hy
  rw[show(g.fx P κ 0).Inb i=none from hno i] at this
  exact this
 have hstep:step P (crowd gs₁ w₀ sl₀)=.ended (.done x) w₁:=by
  have:(stepT P (crowd gs₁ w₀ sl₀)).1=.ended (.done x) w₁:=by rw[h2,hend]
  exact this
 have hover:(T0++U0).HandedOver:=by
  rintro i gg hgg hne ⟨y,hy,hym,_⟩
  rcases C.core.past.known i y hy hym with⟨k,op,hk,hop,hb⟩|⟨_,hs,_⟩
  ·refine⟨k,by rw[g?_of hk,hop], ?_⟩
   rcases hb with rfl|hb
   ·exfalso
    rw[g?_of hk,hop] at hgg
    exact hne (Option.some.inj hgg).symm
   ·exact hb
  ·obtain⟨z,hz,_⟩:=hs
   rw[hrs] at hz;cases hz
 refine⟨N,crowd gs₁ w₀ sl₀,.done x,w₁,T++U, ?_, ?_,hstep,x,rfl,hp w₁ h5.vis h5.old,fun said=>h4.race (C.core.past.clean said),h4.handedOver hover,⟨fun y hy=> ?_,rfl⟩,fun j y hy hj=> ?_⟩
 ·rw[runNT_add,h1 T]
  simp only[runNT,h2,hend]
  simp
 ·have:=runN_then (N':=0) h1
  simpa[runN] using this
 ·obtain⟨j,hj⟩:=List.mem_iff_getElem?.1 hy
  rw[List.getElem?_drop] at hj
  exact⟨_,(hidle (1+j) y (by omega) (by simpa[crowd] using hj)).2.leaves⟩
 ·have hq:=(hidle j y hj hy).2
  refine⟨q₁ j, ?_⟩
  rw[show(T++U).deaf j (T++U).size=Deaf (T0++U0) j from(h4.deafAll j).symm]
  exact hq.hears _
def odds (h:Array Obj):List (Nat×Nat):=((List.range h.size).filter fun r=>match h[r]? with|some o=> !plainO o|none=>false).map fun r=>(r,0)
theorem hidOf_some {l:List (Nat×Nat)} {x n:Nat} (h:hidOf l x=some n):(x,n)∈l:=by
 unfold hidOf at h
 cases hf:l.find? (·.1==x) with
 |none=>rw[hf] at h;cases h
 |some y=>
  rw[hf] at h
  have h1:=List.mem_of_find?_eq_some hf
  have h2:=List.find?_some hf
  simp only[Option.map_some,Option.some.injEq] at h
  have h3:y.1=x:=by simpa using h2
  rw[←h,←h3];exact h1
theorem hidOf_none {l:List (Nat×Nat)} {x:Nat} (h:hidOf l x=none):∀n,(x,n)∉l:=by
 intro n hn
 unfold hidOf at h
 simp only[Option.map_eq_none_iff,List.find?_eq_none] at h
 exact h _ hn (by simp)
theorem odds_some {h:Array Obj} {r n:Nat} (e:hidOf (odds h) r=some n):n=0∧∃o,h[r]?=some o∧plainO o=false:=by
 have h1:=hidOf_some e
 unfold odds at h1
 simp only[List.mem_map,List.mem_filter,Prod.mk.injEq] at h1
 obtain⟨a,⟨_,h2⟩,rfl,rfl⟩:=h1
 refine⟨rfl, ?_⟩
 cases ho:h[a]? with
 |none=>rw[ho] at h2;cases h2
 |some o=>rw[ho] at h2;exact⟨o,rfl,by simpa using h2⟩
theorem odds_none {h:Array Obj} {r:Nat} (e:hidOf (odds h) r=none) {o:Obj} (ho:h[r]?=some o):plainO o=true:=by
 cases hp:plainO o with
 |true=>rfl
 |false=>
  refine absurd ?_ (hidOf_none e 0)
  unfold odds
  simp only[List.mem_map,List.mem_filter,List.mem_range,Prod.mk.injEq]
  exact⟨r,⟨(Array.getElem?_eq_some_iff.1 ho).1,by rw[ho];simpa using hp⟩,by simp⟩
def seen0 (w:World):World:={w with heap:=vis (hidOf (odds w.heap)) w.heap}
theorem seen0_nview (w:World):nview (seen0 w).heap:=by
 intro i o hi
 have hi':(vis (hidOf (odds w.heap)) w.heap)[i]?=some o:=hi
 rw[vis_get] at hi'
 cases hw:w.heap[i]? with
 |none=>rw[hw] at hi';cases hi'
 |some o'=>
  rw[hw] at hi'
  simp only[Option.map_some,Option.some.injEq] at hi'
  cases hh:hidOf (odds w.heap) i with
  |none=>rw[hh] at hi';rw[←hi'];exact .inl (odds_none hh hw)
  |some n=>
   obtain⟨_,o2,h2,h3⟩:=odds_some hh
   rw[hw] at h2
   cases h2
   rw[hh] at hi'
   rw[←hi']
   exact .inr (cut_odd n h3)
theorem seen0_vis (w:World):Vis (hidOf (odds w.heap)) w (seen0 w):=⟨rfl,rfl,rfl,fun _ _ e=> .inr (.inr (odds_some e).2)⟩
def Gh.zero (hid:List (Nat×Nat)):Gh:={on:=false,s:=0,rs:=[],up:=0,off:=0,cnt:=0,lim:=0,m0:=none,ear:=true,hid:=hid,n:=1}
theorem Gh.zero_ok (hid:List (Nat×Nat)):(Gh.zero hid).Ok 0:=
 {s:=(fun e=>by cases e),r:=(fun _ hx=>by cases hx),up:=Nat.le_refl _,pos:=(fun _ hx=>by cases hx),inj:=List.nodup_nil,off:=.inl rfl,ear:=fun _=>rfl,chn:=List.nodup_nil,num:=fun _ hx=>by simp[Gh.zero] at hx,few:=by simp[Gh.zero],m0:=(fun _ e=>by cases e)}
theorem co_begin {Z:Goal} {a:Goroutine} {w:World} (hO:Z.old=w.heap) (hc:Co P Z 0 ((Gh.zero (odds w.heap)).fx P κ 0) a (seen0 w)):Z.E (solo a w) #[]:=by
 have hsit:(Gh.zero (odds w.heap)).sit=[]:=rfl
 have hseat:∀i,(Gh.zero (odds w.heap)).seat κ i=none:=fun i=>by unfold Gh.seat Gh.zero Gh.sit;split<;>rfl
 rw[solo_eq_crowd]
 have hcl:∀said,¬Race said (#[]:Trace):=past_nil.clean
 refine hc #[] #[] #[a] w none (fun _=>0) .nil ⟨⟨fun _=>False,⟨fun i y hi hy=> ?_,fun i s c _ e _=> ?_,fun i s e=> ?_,fun _ _ hf=>hf.elim,fun i _ s _ _ e _=> ?_,fun _ _=>rfl,fun i s e=> ?_,fun i hi=> ?_,fun i s _ e=> ?_,⟨hcl,fun i b hb=> ?_,fun i b hb=> ?_,fun _ _=>rfl,by simp⟩,fun x hx=>by cases hx⟩,
  ⟨fun _ hf=>hf.elim,fun x hx=> ?_,fun x hx=> ?_,(fun e=>by cases e), ?_,fun x hx=> ?_,(fun e=>by cases e),(fun e=>by cases e),fun k b=>by simp[Trace.act?]⟩,id,fun _ _ hf=>hf.elim,⟨(fun e=>by cases e),(fun e=>by cases e),(fun x hx=>by cases hx),(fun x hx=>by cases hx),fun x hx=> ?_⟩⟩,rfl,seen0_vis w,seen0_nview w,fun r n e=> ?_,⟨by rw[hO];exact Nat.le_refl _,fun r o e p=> ?_,fun r o e p=> ?_⟩⟩ (by simp)
 ·have:i<1:=by simpa using(Array.getElem?_eq_some_iff.1 hy).1
  exact absurd (.inl (by omega)) hi
 ·rw[show((Gh.zero (odds w.heap)).fx P κ 0).Inb i=none from hseat i] at e;cases e
 ·rw[show((Gh.zero (odds w.heap)).fx P κ 0).Inb i=none from hseat i] at e;cases e
 ·rw[show((Gh.zero (odds w.heap)).fx P κ 0).Inb i=none from hseat i] at e;cases e
 ·rw[show((Gh.zero (odds w.heap)).fx P κ 0).Inb i=none from hseat i] at e;cases e
 ·rcases hi with⟨e,_⟩|⟨x,hx,_⟩
  ·exact .inr (.inl e)
  ·rw[hsit] at hx;cases hx
 ·rw[show((Gh.zero (odds w.heap)).fx P κ 0).Inb i=none from hseat i] at e;cases e
 ·simp[touchAt,Trace.act?] at hb
 ·simp[touchAt,Trace.act?] at hb
 ·simp[Gh.gone,Gh.zero] at hx
 ·simp[Gh.gone,Gh.zero] at hx
 ·simp[busy,Gh.gone,Gh.zero]
 ·simp[Gh.gone,Gh.zero] at hx
 ·simp[Gh.gone,Gh.zero] at hx
 ·obtain⟨_,o,h2,_⟩:=odds_some e
  rw[(seen0_vis w).size]
  exact(Array.getElem?_eq_some_iff.1 h2).1
 ·rw[hO] at e
  cases hh:hidOf (odds w.heap) r with
  |none=>exact hh
  |some n=>
   obtain⟨_,o2,h2,h3⟩:=odds_some hh
   rw[e] at h2
   cases h2
   rw[p] at h3
   cases h3
 ·rw[hO] at e
  cases hh:hidOf (odds w.heap) r with
  |none=>
   have:=odds_none hh e
   rw[p] at this
   cases this
  |some n=>
   obtain⟨rfl,_⟩:=odds_some hh
   exact⟨hh,e⟩
end
end Co
end Go.Proofs.Ytlngbdggehghgaa

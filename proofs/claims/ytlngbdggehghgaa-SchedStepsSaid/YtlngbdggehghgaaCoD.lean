/-
  A tree of the model's operations, run in a world of which a part is hidden (rows cut off, channels taken away), runs in the whole world just so, touches nothing of what is hidden, and reads the tape by its answers alone. Conditions: as each theorem says.
  The primitives of the model's operations obey the law of CoA (SimuOk): loads, stores, new rows, questions to the tape, the program's tables, comparison of addresses. Conditions: as each theorem says.
  The operations of plain code obey the law of CoA (Simu): first lot: types, rows, variables, views. Conditions: as each theorem says.
  The operations of plain code obey the law of CoA (Simu): second lot: comparison. Conditions: as each theorem says.
-/
import Derived.Conc.TokenWalk
import Derived.Conc.Events
namespace Go.Proofs.Ytlngbdggehghgaa
set_option linter.unusedSimpArgs false
set_option linter.unusedVariables false
namespace Co
def oddV:Obj:=.view ⟨0,0,some default⟩ 0
def plainO:Obj→Bool
 | .view .. | .pending .. =>false
 |_=>true
def cut (n:Nat):Obj→Obj
 | .cells c t f=> .cells (c.extract 0 n) t f
 | .view _ _| .pending _ _=>oddV
 |_=> .coro none
theorem cut_odd (n:Nat) {o:Obj} (h:plainO o=false):cut n o=oddV:=by
 cases o<;>first|rfl|cases h
def see:Option Nat→Obj→Obj
 |some n,o=>cut n o
 |none,o=>o
@[simp] theorem see_none (o:Obj):see none o=o:=rfl
@[simp] theorem see_some (n:Nat) (o:Obj):see (some n) o=cut n o:=rfl
@[simp] theorem map_see_none (o:Option Obj):o.map (see none)=o:=by cases o<;>rfl
def vis (H:Nat→Option Nat) (h:Array Obj):Array Obj:=h.mapIdx fun i o=>see (H i) o
structure Vis (H:Nat→Option Nat) (w v:World):Prop where
 heap:v.heap=vis H w.heap
 os:v.os=w.os
 output:v.output=w.output
 kinds:∀r n,H r=some n→(∃c t,w.heap[r]?=some (.cells c t (0,0)))∨(∃a b c d e f,w.heap[r]?=some (.chan a b c d e f))∨∃o,w.heap[r]?=some o∧plainO o=false
def nview (h:Array Obj):Prop:=∀(i:Nat) (o:Obj),h[i]?=some o→plainO o=true∨o=oddV
def GoodH:Halt→Prop
 | .panic _| .stuck _=>True
 | .unsupported u=> ∀g,u≠.initOrder g
 |_=>False
def SameFrom (n:Nat):Option Obj→Option Obj→Prop
 |some (.cells c t f),some (.cells c' t' f')=>t=t'∧f=f'∧c.size=c'.size∧∀j,n≤j→c'[j]?=c[j]?
 |o,o'=>o=o'
def Hs (H:Nat→Option Nat) (w w':World):Prop:=∀r n,H r=some n→SameFrom n w.heap[r]? w'.heap[r]?
def EvOk (H:Nat→Option Nat) (B:Nat) (e:Event):Prop:=
 (∃a wr,e=⟨.cell a,wr,false⟩∧a.block<B∧∀n,H a.block=some n→a.off<n)∨(∃r wr s,e=⟨.obj r,wr,s⟩∧r<B∧(wr=true→H r=none))∨e=⟨.mark .noRoom,false,true⟩
theorem SameFrom.refl (n:Nat) (o:Option Obj):SameFrom n o o:=by
 rcases o with _|o
 ·rfl
 ·cases o with
  |cells c t f=>exact⟨rfl,rfl,rfl,fun _ _=>rfl⟩
  |_=>rfl
theorem SameFrom.cells {n:Nat} {c:Array Value} {t:TypeId} {f:Nat×Nat} {b:Option Obj} (h:SameFrom n (some (.cells c t f)) b):
 ∃c',b=some (.cells c' t f)∧c.size=c'.size∧∀j,n≤j→c'[j]?=c[j]?:=by
 rcases b with _|b
 ·cases h
 ·cases b with
  |cells c' t' f'=>obtain⟨rfl,rfl,h1,h2⟩:=h;exact⟨c',rfl,h1,h2⟩
  |_=>cases h
theorem SameFrom.other {n:Nat} {a b:Option Obj} (h:SameFrom n a b) (ha:∀c t f,a≠some (.cells c t f)):b=a:=by
 rcases a with _|a
 ·exact h.symm
 ·cases a with
  |cells c t f=>exact absurd rfl (ha c t f)
  |_=>exact h.symm
theorem SameFrom.trans {n:Nat} {a b c:Option Obj} (h:SameFrom n a b) (k:SameFrom n b c):SameFrom n a c:=by
 by_cases ha:∀c t f,a≠some (.cells c t f)
 ·have:=h.other ha
  subst this
  exact k
 ·have⟨c1,t1,f1,e⟩:∃c t f,a=some (.cells c t f):=Classical.byContradiction fun hh=>ha fun c t f e=>hh ⟨c,t,f,e⟩
  subst e
  obtain⟨c2,rfl,s2,e2⟩:=h.cells
  obtain⟨c3,rfl,s3,e3⟩:=k.cells
  exact⟨rfl,rfl,s2.trans s3,fun j hj=>(e3 j hj).trans (e2 j hj)⟩
theorem Hs.refl (H:Nat→Option Nat) (w:World):Hs H w w:=fun _ _ _=>SameFrom.refl _ _
theorem Hs.trans {H:Nat→Option Nat} {a b c:World} (h:Hs H a b) (k:Hs H b c):Hs H a c:=fun r n e=>(h r n e).trans (k r n e)
theorem EvOk.mono {H:Nat→Option Nat} {B B':Nat} {e:Event} (h:EvOk H B e) (hB:B≤B'):EvOk H B' e:=by
 rcases h with⟨a,wr,e1,h1,h2⟩|⟨r,wr,s,e1,h1,h2⟩|h
 ·exact .inl ⟨a,wr,e1,by omega,h2⟩
 ·exact .inr (.inl ⟨r,wr,s,e1,by omega,h2⟩)
 ·exact .inr (.inr h)
theorem vis_get (H:Nat→Option Nat) (h:Array Obj) (i:Nat):(vis H h)[i]?=(h[i]?).map (see (H i)):=by
 simp[vis]
theorem vis_size (H:Nat→Option Nat) (h:Array Obj):(vis H h).size=h.size:=by simp[vis]
def SimuOk {α:Type} (P:Program) (H:Nat→Option Nat) (s:Sem α):Prop:=
 ∀(v:World) (a:α) (v':World) (es es':Array Event),nview v.heap→(∀r n,H r=some n→r<v.heap.size)→s.runT P v es=(.ok a v',es')→
  v'.tape=v.tape∧nview v'.heap∧v.heap.size≤v'.heap.size∧∃k,v'.drawn=v.drawn+k∧
   ∀(w:World) (fs:Array Event),Vis H w v→(∀t q,t<k→w.tape (w.drawn+t) q=v.tape (v.drawn+t) q)→
    ∃(w':World) (gs:Array Event),s.runT P w fs=(.ok a w',fs++gs)∧Vis H w' v'∧w'.tape=w.tape∧w'.drawn=w.drawn+k∧Hs H w w'∧∀e∈gs,EvOk H w'.heap.size e
structure Same (u v:World):Prop where
 heap:u.heap=v.heap
 os:u.os=v.os
 output:u.output=v.output
def Ans (v w:World) (k:Nat):Prop:=∀t q,t<k→w.tape (w.drawn+t) q=v.tape (v.drawn+t) q
def HaltOk {α:Type} (P:Program) (s:Sem α):Prop:=
 ∀(v:World) (es:Array Event) (x:Halt) (v':World) (es':Array Event),nview v.heap→s.runT P v es=(.halt x v',es')→
  GoodH x∧∃k,∀u fs,Same u v→Ans v u k→∃u' gs,s.runT P u fs=(.halt x u',gs)
def Simu {α:Type} (P:Program) (_:Nat→Option Nat) (s:Sem α):Prop:=(∀H,SimuOk P H s)∧HaltOk P s
theorem vis_none (h:Array Obj):vis (fun _=>none) h=h:=by
 apply Array.ext_getElem?
 intro i
 rw[vis_get,map_see_none]
theorem Vis.same {u v:World} (h:Vis (fun _=>none) u v):Same u v:=⟨by rw[h.heap,vis_none],h.os.symm,h.output.symm⟩
theorem Same.vis {u v:World} (h:Same u v):Vis (fun _=>none) u v:=⟨by rw[vis_none,h.heap],h.os.symm,h.output.symm,fun _ _ e=>by cases e⟩
section
variable {α β:Type} {P:Program} {H:Nat→Option Nat}
theorem Vis.size {w v:World} (h:Vis H w v):v.heap.size=w.heap.size:=by rw[h.heap,vis_size]
theorem sok_pure (a:α):SimuOk P H (.pure a:Sem α):=by
 intro v b v' es es' hn hH h
 simp only[Sem.runT,Prod.mk.injEq,Result.ok.injEq] at h
 obtain⟨⟨rfl,rfl⟩,rfl⟩:=h
 exact⟨rfl,hn,Nat.le_refl _,0,rfl,fun w fs hv _=>⟨w,#[],by simp[Sem.runT],hv,rfl,rfl,Hs.refl H w,by simp⟩⟩
theorem sok_halt (x:Halt):SimuOk P H (.halt x:Sem α):=by
 intro v b v' es es' hn hH h
 simp[Sem.runT] at h
theorem sok_bind {x:Sem α} {f:α→Sem β} (hx:SimuOk P H x) (hf:∀a,SimuOk P H (f a)):SimuOk P H (x.bind f):=by
 intro v b v' es es' hn hH h
 rw[Sem.runT_bind'] at h
 cases hr:x.runT P v es with
 |mk r es1=>
  rw[hr] at h
  cases r with
  |halt y w1=>simp at h
  |ok a v1=>
   simp only at h
   obtain⟨t1,n1,s1,k1,d1,F1⟩:=hx v a v1 es es1 hn hH hr
   obtain⟨t2,n2,s2,k2,d2,F2⟩:=hf a v1 b v' es1 es' n1 (fun r n e=>Nat.lt_of_lt_of_le (hH r n e) s1) h
   refine⟨t2.trans t1,n2,Nat.le_trans s1 s2,k1+k2,by rw[d2,d1];omega,fun w fs hv ht=> ?_⟩
   obtain⟨w1,g1,e1,v1',a1,b1,c1,o1⟩:=F1 w fs hv (fun t q h=>ht t q (by omega))
   obtain⟨w2,g2,e2,v2',a2,b2,c2,o2⟩:=F2 w1 (fs++g1) v1' (fun t q h=>by
    rw[a1,b1,d1,t1]
    have:=ht (k1+t) q (by omega)
    rw[←Nat.add_assoc,←Nat.add_assoc] at this
    exact this)
   refine⟨w2,g1++g2, ?_,v2',a2.trans a1,by rw[b2,b1];omega,c1.trans c2,fun e he=> ?_⟩
   ·rw[Sem.runT_bind',e1]
    simp only
    rw[e2,Array.append_assoc]
   ·rcases Array.mem_append.1 he with h1|h1
    ·refine(o1 e h1).mono ?_
     rw[←v1'.size,←v2'.size];exact s2
    ·exact o2 e h1
theorem simu_pure (a:α):Simu P H (.pure a:Sem α):=⟨fun _=>sok_pure a,fun v es x v' es' _ h=>by simp[Sem.runT] at h⟩
theorem simu_pure' (a:α):Simu P H (pure a:Sem α):=simu_pure a
theorem simu_halt (x:Halt) (hx:GoodH x):Simu P H (.halt x:Sem α):=⟨fun _=>sok_halt x,fun v es y v' es' _ h=>by
 simp only[Sem.runT,Prod.mk.injEq,Result.halt.injEq] at h
 rw[←h.1.1]
 exact⟨hx,0,fun u fs _ _=>⟨u,fs,rfl⟩⟩⟩
theorem simu_bind {x:Sem α} {f:α→Sem β} (hx:Simu P H x) (hf:∀a,Simu P H (f a)):Simu P H (x.bind f):=by
 refine⟨fun H'=>sok_bind (hx.1 H') fun a=>(hf a).1 H',fun v es y v' es' hn h=> ?_⟩
 rw[Sem.runT_bind'] at h
 cases hr:x.runT P v es with
 |mk r es1=>
  rw[hr] at h
  cases r with
  |halt z w1=>
   simp only[Prod.mk.injEq,Result.halt.injEq] at h
   obtain⟨h1,k,h2⟩:=hx.2 _ _ _ _ _ hn hr
   rw[←h.1.1]
   refine⟨h1,k,fun u fs hs ha=> ?_⟩
   obtain⟨u',gs,e⟩:=h2 u fs hs ha
   exact⟨u',gs,by rw[Sem.runT_bind',e]⟩
  |ok a v1=>
   simp only at h
   obtain⟨t1,n1,s1,k1,d1,F⟩:=hx.1 (fun _=>none) v a v1 es es1 hn (fun _ _ e=>by cases e) hr
   obtain⟨h1,k,h2⟩:=(hf a).2 _ _ _ _ _ n1 h
   refine⟨h1,k1+k,fun u fs hs ha=> ?_⟩
   obtain⟨u1,g1,e1,v1',a1,b1,c1,o1⟩:=F u fs hs.vis (fun t q h=>ha t q (by omega))
   obtain⟨u2,g2,e2⟩:=h2 u1 (fs++g1) v1'.same (fun t q h=>by
    rw[a1,b1,d1,t1]
    have:=ha (k1+t) q (by omega)
    rw[←Nat.add_assoc,←Nat.add_assoc] at this
    exact this)
   exact⟨u2,g2,by rw[Sem.runT_bind',e1];exact e2⟩
theorem simu_bind' {x:Sem α} {f:α→Sem β} (hx:Simu P H x) (hf:∀a,Simu P H (f a)):Simu P H (x>>=f):=simu_bind hx hf
end
end Co
end Go.Proofs.Ytlngbdggehghgaa

namespace Go.Proofs.Ytlngbdggehghgaa
set_option linter.unusedSimpArgs false
set_option linter.unusedVariables false
namespace Co
section
variable {α β:Type} {P:Program} {H:Nat→Option Nat}
theorem Vis.get {w v:World} (h:Vis H w v) (i:Nat):v.heap[i]?=(w.heap[i]?).map (see (H i)):=by
 rw[h.heap,vis_get]
theorem Vis.none {w v:World} (h:Vis H w v) {i:Nat} (hi:H i=.none):v.heap[i]?=w.heap[i]?:=by
 rw[h.get i,hi,map_see_none]
theorem Vis.cell {w v:World} (h:Vis H w v) {a:Addr} {x:Value} (hc:v.cell? a=some x):
 w.cell? a=some x∧a.block<w.heap.size∧a.spot=.none∧(∀n,H a.block=some n→a.off<n)∧∃c t f,w.heap[a.block]?=some (.cells c t f):=by
 unfold World.cell? at hc⊢
 rw[h.get] at hc
 cases hw:w.heap[a.block]? with
 |none=>rw[hw] at hc;simp at hc
 |some o=>
  rw[hw] at hc
  have hlt:a.block<w.heap.size:=(Array.getElem?_eq_some_iff.1 hw).1
  cases o with
  |cells c t f=>
   cases hH:H a.block with
   |none=>
    simp only[hH,Option.map_some,see_none] at hc
    cases hs:a.spot with
    |none=>rw[hs] at hc;exact⟨by simpa[hs] using hc,hlt,rfl,by simp,_,_,_,rfl⟩
    |some y=>rw[hs] at hc;simp at hc
   |some n=>
    simp only[hH,Option.map_some,see_some,cut] at hc
    cases hs:a.spot with
    |some y=>rw[hs] at hc;simp at hc
    |none=>
     rw[hs] at hc
     simp only[Option.isSome_none,Bool.false_eq_true,if_false] at hc
     rw[Array.getElem?_extract] at hc
     simp only[Nat.sub_zero,Nat.zero_add] at hc
     split at hc
     ·rename_i hlt2
      refine⟨by simpa using hc,hlt,rfl,fun m hm=> ?_,_,_,_,rfl⟩
      simp only[Option.some.injEq] at hm
      subst hm
      omega
     ·cases hc
  |_=>
   exfalso
   revert hc
   cases H a.block<;>simp[cut,oddV]
theorem Vis.frozen {w v:World} (h:Vis H w v) (a:Addr):v.frozen? a=w.frozen? a:=by
 unfold World.frozen?
 rw[h.get]
 cases hw:w.heap[a.block]? with
 |none=>rfl
 |some o=>
  cases hH:H a.block with
  |none=>simp
  |some n=>
   rcases h.kinds _ _ hH with⟨c,t,e⟩|⟨b1,b2,b3,b4,b5,b6,e⟩|⟨o',e,hp⟩
   ·rw[hw] at e;cases e;rfl
   ·rw[hw] at e;cases e;simp[cut]
   ·rw[hw] at e;cases e
    simp only[Option.map_some,see_some,cut_odd n hp]
    cases o<;>first|rfl|cases hp
theorem nview_view {v:World} (hn:nview v.heap) {b:Nat} {at_:Addr} {u:TypeId} (h:v.heap[b]?=some (.view at_ u)):at_=⟨0,0,some default⟩∧u=0:=by
 rcases hn _ _ h with h1|h1
 ·cases h1
 ·cases h1;exact⟨rfl,rfl⟩
theorem seen_odd (v:World) (u:TypeId) (k:Addr) (b:Bool):v.seen P ⟨0,0,some default⟩ u k b=.error "memory seen as another type: a place without cells":=by
 unfold World.seen
 simp
 rfl
theorem viewLoad_odd (v:World) {at_:Addr} {u:TypeId} (h:at_=⟨0,0,some default⟩∧u=0) (k:Addr) (b:Bool):v.viewLoad P at_ u k b=.error "memory seen as another type: a place without cells":=by
 rw[h.1]
 unfold World.viewLoad
 rw[seen_odd]
 rfl
theorem viewStore_odd (v:World) {at_:Addr} {u:TypeId} (h:at_=⟨0,0,some default⟩∧u=0) (k:Addr) (x:Value) (b:Bool):v.viewStore P at_ u k x b=.error (if(!tight P P.depth 0) then "memory seen as another type: a store through a type with padding" else "memory seen as another type: a place without cells"):=by
 rw[h.1,h.2]
 unfold World.viewStore
 rw[seen_odd]
 cases tight P P.depth 0<;>rfl
theorem far_none {v:World} (hn:nview v.heap) {a:Addr} (at_:Bool):∃x,v.farLoad P a at_=.error x:=by
 unfold World.farLoad
 split
 ·rename_i h
  rw[viewLoad_odd v (nview_view hn h)]
  exact⟨_,rfl⟩
 ·exact⟨_,rfl⟩
theorem farStore_none {v:World} (hn:nview v.heap) {a:Addr} (x:Value) (at_:Bool):∃y,v.farStore P a x at_=.error y:=by
 unfold World.farStore
 split
 ·rename_i h
  rw[viewStore_odd v (nview_view hn h)]
  exact⟨_,rfl⟩
 ·exact⟨_,rfl⟩
theorem sok_load (a:Addr):SimuOk P H (load a):=by
 intro v b v' es es' hn hH h
 unfold load at h⊢
 simp only[Sem.runT] at h
 cases hc:v.cell? a with
 |none=>
  rw[hc] at h
  obtain⟨x,hx⟩:=far_none (P:=P) hn (a:=a) (Mode.plain==Mode.atomic)
  rw[hx] at h
  simp at h
 |some x=>
  rw[hc] at h
  simp only[Sem.runT,Prod.mk.injEq,Result.ok.injEq] at h
  obtain⟨⟨rfl,rfl⟩,_⟩:=h
  refine⟨rfl,hn,Nat.le_refl _,0,rfl,fun w fs hv _=>⟨w,#[⟨.cell a,false,false⟩], ?_,hv,rfl,rfl,Hs.refl H w, ?_⟩⟩
  ·simp only[Sem.runT,(hv.cell hc).1]
   rfl
  ·intro e he
   simp only[List.mem_toArray,List.mem_cons,List.not_mem_nil,or_false] at he
   subst he
   exact .inl ⟨a,false,rfl,(hv.cell hc).2.1,(hv.cell hc).2.2.2.1⟩
theorem setCell_size (w:World) (a:Addr) (x:Value):(w.setCell a x).heap.size=w.heap.size:=by simp[World.setCell]
theorem setCell_get (w:World) (a:Addr) (x:Value) (i:Nat) (c:Array Value) (t:TypeId) (f:Nat×Nat) (hb:w.heap[a.block]?=some (.cells c t f)) (hs:a.spot=.none):
 (w.setCell a x).heap[i]?=if a.block=i then some (.cells (c.setIfInBounds a.off x) t f) else w.heap[i]?:=by
 unfold World.setCell
 simp only[Array.getElem?_modify,hs]
 split
 ·rename_i e;subst e;simp[hb]
 ·rfl
theorem nview_setCell {w:World} (h:nview w.heap) (a:Addr) (x:Value):nview (w.setCell a x).heap:=by
 intro i o hh
 unfold World.setCell at hh
 simp only[Array.getElem?_modify] at hh
 split at hh
 ·cases hw:w.heap[i]? with
  |none=>rw[hw] at hh;simp at hh
  |some o'=>
   rw[hw] at hh
   have:=h i o' hw
   simp only[Option.map_some,Option.some.injEq] at hh
   subst hh
   cases o'<;>first|exact .inl rfl|exact this
 ·exact h i o hh
theorem sok_store (a:Addr) (x:Value):SimuOk P H (store a x):=by
 intro v b v' es es' hn hH h
 unfold store at h⊢
 by_cases hx:(∃y,x=.agg y)∨∃y,x=.tuple y
 ·rcases hx with⟨y,rfl⟩|⟨y,rfl⟩<;>simp[Sem.runT] at h
 have hrun:∀(w:World) (fs:Array Event),(Sem.store Mode.plain a x (.pure ()):Sem Unit).runT P w fs=match w.cell? a with
  |some _=>if w.frozen? a then(.halt (.unsupported (.unsafePointer "a write to bytes that a string shares")) w,fs) else(.ok () (w.setCell a x),fs.push ⟨.cell a,true,false⟩)
  |none=>match w.farStore P a x (Mode.plain==Mode.atomic) with
   | .ok (w,touched)=>(.ok () w,fs++touched.toArray.map (⟨.cell ·,true,Mode.plain==Mode.atomic⟩))
   | .error h=>(.halt h w,fs):=by
  intro w fs
  cases x<;>first|rfl|exact absurd (.inl ⟨_,rfl⟩) hx|exact absurd (.inr ⟨_,rfl⟩) hx
 rw[hrun] at h
 cases hc:v.cell? a with
 |none=>
  rw[hc] at h
  obtain⟨y,hy⟩:=farStore_none (P:=P) hn (a:=a) x (Mode.plain==Mode.atomic)
  rw[hy] at h
  simp at h
 |some z=>
  rw[hc] at h
  cases hf:v.frozen? a with
  |true=>rw[hf] at h;simp at h
  |false=>
   rw[hf] at h
   simp only[Bool.false_eq_true,if_false,Prod.mk.injEq,Result.ok.injEq,true_and] at h
   obtain⟨rfl,_⟩:=h
   refine⟨rfl,nview_setCell hn a x,by rw[setCell_size];exact Nat.le_refl _,0,rfl,fun w fs hv _=> ?_⟩
   obtain⟨c1,c2,c3,c4,cc,ct,cf,c5⟩:=hv.cell hc
   have hvb:=hv.get a.block
   rw[c5] at hvb
   refine⟨w.setCell a x,#[⟨.cell a,true,false⟩], ?_,⟨?_,hv.os,hv.output, ?_⟩,rfl,rfl, ?_, ?_⟩
   ·rw[hrun,c1,←hv.frozen,hf];rfl
   ·apply Array.ext_getElem?
    intro i
    rw[vis_get,setCell_get w a x i cc ct cf c5 c3]
    cases hHb:H a.block with
    |none=>
     rw[hHb] at hvb
     rw[setCell_get v a x i cc ct cf (by simpa using hvb) c3]
     split
     ·rename_i e;subst e;simp[hHb]
     ·exact hv.get i
    |some n=>
     rw[hHb] at hvb
     simp only[Option.map_some,see_some,cut] at hvb
     rw[setCell_get v a x i _ ct cf hvb c3]
     split
     ·rename_i e
      subst e
      simp only[hHb,Option.map_some,see_some,cut,Option.some.injEq,Obj.cells.injEq,and_true]
      apply Array.ext_getElem?
      intro j
      have hlt:=c4 n hHb
      simp only[Array.getElem?_setIfInBounds,Array.getElem?_extract,Array.size_extract,Nat.sub_zero,Nat.zero_add,Array.size_setIfInBounds]
      by_cases hj:a.off=j
      ·subst hj
       by_cases h2:a.off<cc.size
       ·simp[h2,hlt,Nat.lt_min]
       ·simp[h2,hlt,Nat.lt_min]
      ·simp[hj]
     ·exact hv.get i
   ·intro r n hr
    rw[setCell_get w a x r cc ct cf c5 c3]
    split
    ·rename_i e
     subst e
     rcases hv.kinds _ n hr with⟨c,t,e1⟩|⟨_,_,_,_,_,_,e1⟩|⟨o,e1,hp⟩
     ·rw[c5] at e1;cases e1;exact .inl ⟨_,_,rfl⟩
     ·rw[c5] at e1;cases e1
     ·rw[c5] at e1;cases e1;cases hp
    ·exact hv.kinds r n hr
   ·intro r n hr
    rw[setCell_get w a x r cc ct cf c5 c3]
    split
    ·rename_i e
     subst e
     rw[c5]
     refine⟨rfl,rfl,by simp,fun j hj=> ?_⟩
     have:=c4 n hr
     rw[Array.getElem?_setIfInBounds_ne (by omega)]
    ·exact SameFrom.refl _ _
   ·intro e he
    simp only[List.mem_toArray,List.mem_cons,List.not_mem_nil,or_false] at he
    subst he
    exact .inl ⟨a,true,rfl,by rw[setCell_size];exact c2,c4⟩
theorem sok_newObj (o:Obj) (ho:plainO o=true):SimuOk P H (newObj o):=by
 intro v b v' es es' hn hH h
 unfold newObj at h⊢
 simp only[Sem.runT,Prod.mk.injEq,Result.ok.injEq] at h
 obtain⟨⟨rfl,rfl⟩,_⟩:=h
 refine⟨rfl, ?_,by simp,0,rfl,fun w fs hv _=>⟨{w with heap:=w.heap.push o},#[], ?_,⟨?_,hv.os,hv.output, ?_⟩,rfl,rfl, ?_,by simp⟩⟩
 ·intro i u hh
  rw[Array.getElem?_push] at hh
  split at hh
  ·rw[←Option.some.inj hh];exact .inl ho
  ·exact hn i u hh
 ·simp only[Sem.runT,hv.size,Array.append_empty]
 ·have hnone:H w.heap.size=.none:=by
   cases e:H w.heap.size with
   |none=>rfl
   |some n=>have:=hH _ n e;rw[hv.size] at this;omega
  apply Array.ext_getElem?
  intro i
  rw[vis_get,Array.getElem?_push,Array.getElem?_push,hv.size]
  split
  ·rename_i e;subst e;simp[hnone]
  ·exact hv.get i
 ·intro r n hr
  have:=hH r n hr
  rw[hv.size] at this
  rw[Array.getElem?_push,if_neg (by omega)]
  exact hv.kinds r n hr
 ·intro r n hr
  have:=hH r n hr
  rw[hv.size] at this
  show SameFrom n w.heap[r]? (w.heap.push _)[r]?
  rw[Array.getElem?_push,if_neg (by omega)]
  exact SameFrom.refl _ _
theorem sok_choose (q:Question):SimuOk P H (choose q):=by
 intro v b v' es es' hn hH h
 unfold choose at h⊢
 cases hq:q.forced with
 |true=>
  simp only[Sem.runT,hq,if_true,Prod.mk.injEq,Result.ok.injEq] at h
  obtain⟨⟨rfl,rfl⟩,_⟩:=h
  exact⟨rfl,hn,Nat.le_refl _,0,rfl,fun w fs hv _=>⟨w,#[],by simp only[Sem.runT,hq,if_true,Array.append_empty],hv,rfl,rfl,Hs.refl H w,by simp⟩⟩
 |false=>
  simp only[Sem.runT,hq,Bool.false_eq_true,if_false,Prod.mk.injEq,Result.ok.injEq] at h
  obtain⟨⟨rfl,rfl⟩,_⟩:=h
  refine⟨rfl,hn,Nat.le_refl _,1,rfl,fun w fs hv ht=>⟨{w with drawn:=w.drawn+1},#[], ?_,⟨hv.heap,hv.os,hv.output,hv.kinds⟩,rfl,rfl,Hs.refl H w,by simp⟩⟩
  have:=ht 0 q (by omega)
  simp only[Nat.add_zero] at this
  simp only[Sem.runT,hq,Bool.false_eq_true,if_false,Array.append_empty,this]
theorem sok_program:SimuOk P H program:=by
 intro v b v' es es' hn hH h
 unfold program at h⊢
 simp only[Sem.runT,Prod.mk.injEq,Result.ok.injEq] at h
 obtain⟨⟨rfl,rfl⟩,_⟩:=h
 exact⟨rfl,hn,Nat.le_refl _,0,rfl,fun w fs hv _=>⟨w,#[],by simp only[Sem.runT,Array.append_empty],hv,rfl,rfl,Hs.refl H w,by simp⟩⟩
theorem sok_frozen (a:Addr):SimuOk P H (frozen a):=by
 intro v b v' es es' hn hH h
 unfold frozen at h⊢
 simp only[Sem.runT,Prod.mk.injEq,Result.ok.injEq] at h
 obtain⟨⟨rfl,rfl⟩,_⟩:=h
 exact⟨rfl,hn,Nat.le_refl _,0,rfl,fun w fs hv _=>⟨w,#[],by simp only[Sem.runT,hv.frozen,Array.append_empty],hv,rfl,rfl,Hs.refl H w,by simp⟩⟩
theorem Vis.shape {w v:World} (h:Vis H w v) (r:Nat):(v.shape? r=.none∧w.shape? r=.none)∨∃e n m,v.shape? r=some (e,n)∧w.shape? r=some (e,m)∧(H r=.none→n=m)∧n≤m:=by
 unfold World.shape?
 rw[h.get]
 cases hw:w.heap[r]? with
 |none=>exact .inl ⟨rfl,rfl⟩
 |some o=>
  cases hH:H r with
  |none=>
   simp only[map_see_none]
   cases o with
   |cells c t f=>exact .inr ⟨_,_,_,rfl,rfl,fun _=>rfl,Nat.le_refl _⟩
   |_=>exact .inl ⟨rfl,rfl⟩
  |some n=>
   cases o with
   |cells c t f=>exact .inr ⟨_,_,_,rfl,rfl,by simp,by simp;omega⟩
   |_=>exact .inl ⟨rfl,rfl⟩
theorem sok_shape_bind {r:Nat} {f:Option (TypeId×Nat)→Sem β} (hf:∀o,SimuOk P H (f o)) (hb:∀e n m,n≤m→(∀w fs,(f (some (e,m))).runT P w fs=(f (some (e,n))).runT P w fs)∨∀v es a v' es',(f (some (e,n))).runT P v es≠(.ok a v',es')):SimuOk P H (shape r>>=f):=by
 intro v b v' es es' hn hH h
 change (f (v.shape? r)).runT P v es=_ at h
 obtain⟨h1,h2,h3,k,h4,F⟩:=hf _ v b v' es es' hn hH h
 refine⟨h1,h2,h3,k,h4,fun w fs hv ht=> ?_⟩
 have e:(f (w.shape? r)).runT P w fs=(f (v.shape? r)).runT P w fs:=by
  rcases hv.shape r with⟨a,b⟩|⟨e,n,m,a,b,_,hle⟩
  ·rw[a,b]
  ·rw[a,b]
   rcases hb e n m hle with h1|h1
   ·exact h1 w fs
   ·rw[a] at h;exact absurd h (h1 _ _ _ _ _)
 change∃w' gs,(f (w.shape? r)).runT P w fs=_∧_
 rw[e]
 exact F w fs hv ht
theorem sok_getObj_bind {r:Nat} {f:Obj→Sem β} (hf:∀o,(∀c t f,o≠.cells c t f)→plainO o=true→SimuOk P H (f o))
 (hfo:SimuOk P H (f oddV)) (hod:(∀o,plainO o=false→f o=f oddV)∨∀v es a v' es',(f oddV).runT P v es≠(.ok a v',es'))
 (hc:(∀a b c d e g,f (.coro none)=f (.chan a b c d e g))∨∀v es a v' es',(f (.coro none)).runT P v es≠(.ok a v',es')):SimuOk P H (getObj r>>=f):=by
 intro v b v' es es' hn hH h
 have hrun:∀(w:World) (fs:Array Event),(getObj r>>=f).runT P w fs=match w.heap[r]? with
  |some (.cells ..)=>(.halt (.stuck "getObj: a row of cells") w,fs)
  |some o=>(f o).runT P w (fs.push ⟨.obj r,false,o.isChan⟩)
  |none=>(.halt (.stuck "getObj: no such block") w,fs):=by
  intro w fs
  simp only[getObj,Bind.bind,Sem.bind,Sem.runT]
  rcases w.heap[r]? with _|o
  ·rfl
  ·cases o<;>rfl
 rw[hrun] at h
 cases hr:v.heap[r]? with
 |none=>rw[hr] at h;simp at h
 |some o=>
  rw[hr] at h
  have hnc:∀c t f,o≠.cells c t f:=fun c t f e=>by rw[e] at h;simp at h
  have h':(f o).runT P v (es.push ⟨.obj r,false,o.isChan⟩)=(.ok b v',es'):=by
   cases o<;>first|exact h|exact absurd rfl (hnc _ _ _)
  have hfo':SimuOk P H (f o):=by
   rcases hn r o hr with h0|h0
   ·exact hf o hnc h0
   ·rw[h0];exact hfo
  obtain⟨h1,h2,h3,k,h4,F⟩:=hfo' v b v' _ es' hn hH h'
  refine⟨h1,h2,h3,k,h4,fun w fs hv ht=> ?_⟩
  have hlt:r<w.heap.size:=by
   have:=(Array.getElem?_eq_some_iff.1 hr).1
   rw[hv.size] at this;exact this
  have hg:=hv.get r
  rw[hr] at hg
  have key:∃o',w.heap[r]?=some o'∧(∀c t f,o'≠.cells c t f)∧f o'=f o:=by
   cases hw:w.heap[r]? with
   |none=>rw[hw] at hg;cases hg
   |some o'=>
    rw[hw] at hg
    cases hHr:H r with
    |none=>
     rw[hHr] at hg
     simp only[Option.map_some,see_none,Option.some.injEq] at hg
     subst hg
     exact⟨o,rfl,hnc,rfl⟩
    |some n=>
     rw[hHr] at hg
     simp only[Option.map_some,see_some,Option.some.injEq] at hg
     rcases hv.kinds r n hHr with⟨c,t,e1⟩|⟨a1,a2,a3,a4,a5,a6,e1⟩|⟨o2,e1,hp⟩
     ·rw[hw] at e1
      cases e1
      exact absurd hg (hnc _ _ _)
     ·rw[hw] at e1
      cases e1
      refine⟨_,rfl,(by simp), ?_⟩
      rcases hc with hc|hc
      ·rw[hg];exact(hc _ _ _ _ _ _).symm
      ·rw[hg] at h'
       exact absurd h' (hc _ _ _ _ _)
     ·rw[hw] at e1
      cases e1
      rw[cut_odd n hp] at hg
      refine⟨_,rfl,(fun c t f e=>by rw[e] at hp;cases hp), ?_⟩
      rcases hod with hod|hod
      ·rw[hg];exact hod _ hp
      ·rw[hg] at h'
       exact absurd h' (hod _ _ _ _ _)
  obtain⟨o',k1,k2,k3⟩:=key
  obtain⟨w',gs,e1,e2,e3,e4,e5,e6⟩:=F w (fs.push ⟨.obj r,false,o'.isChan⟩) hv ht
  refine⟨w',#[⟨.obj r,false,o'.isChan⟩]++gs, ?_,e2,e3,e4,e5,fun e he=> ?_⟩
  ·rw[hrun,k1]
   have:(f o').runT P w (fs.push ⟨.obj r,false,o'.isChan⟩)=(.ok b w',fs++(#[⟨.obj r,false,o'.isChan⟩]++gs)):=by
    rw[k3,e1,←Array.append_assoc];rfl
   cases o'<;>first|exact this|exact absurd rfl (k2 _ _ _)
  ·rcases Array.mem_append.1 he with h5|h5
   ·simp only[List.mem_toArray,List.mem_cons,List.not_mem_nil,or_false] at h5
    subst h5
    refine .inr (.inl ⟨r,false,_,rfl, ?_,by simp⟩)
    rw[←e2.size]
    rw[←hv.size] at hlt
    omega
   ·exact e6 e h5
theorem sok_noRoom:SimuOk P H (mark .noRoom):=by
 intro v b v' es es' hn hH h
 unfold mark at h⊢
 simp only[Sem.runT,Prod.mk.injEq,Result.ok.injEq,true_and] at h
 obtain⟨rfl,_⟩:=h
 exact⟨rfl,hn,Nat.le_refl _,0,rfl,fun w fs hv _=>⟨w,#[⟨.mark .noRoom,false,true⟩],by simp[Sem.runT,-Sem.runT_eq],hv,rfl,rfl,Hs.refl H w,by simp[EvOk]⟩⟩
/- .. and how they halt. -/
theorem Same.cell {u v:World} (h:Same u v) (a:Addr):u.cell? a=v.cell? a:=by unfold World.cell?;rw[h.heap]
theorem Same.frozen {u v:World} (h:Same u v) (a:Addr):u.frozen? a=v.frozen? a:=by unfold World.frozen?;rw[h.heap]
theorem Same.noCell {u v:World} (h:Same u v) (a:Addr) (s:String):u.noCell a s=v.noCell a s:=by unfold World.noCell;rw[h.heap]
theorem far_same {u v:World} (hn:nview v.heap) (h:Same u v) (a:Addr) (b:Bool):u.farLoad P a b=v.farLoad P a b:=by
 unfold World.farLoad
 rw[h.heap]
 split
 ·rename_i e;rw[viewLoad_odd u (nview_view hn e),viewLoad_odd v (nview_view hn e)]
 ·rw[h.noCell]
theorem farStore_same {u v:World} (hn:nview v.heap) (h:Same u v) (a:Addr) (x:Value) (b:Bool):(∃z,u.farStore P a x b=.error z∧v.farStore P a x b=.error z):=by
 unfold World.farStore
 rw[h.heap]
 split
 ·rename_i e;rw[viewStore_odd u (nview_view hn e),viewStore_odd v (nview_view hn e)];exact⟨_,rfl,rfl⟩
 ·exact⟨_,by rw[h.noCell],rfl⟩
theorem load_halt {v:World} (hn:nview v.heap) {a:Addr} {es:Array Event} {x:Halt} {v':World} {es':Array Event} (h:(load a).runT P v es=(.halt x v',es')):GoodH x:=by
 unfold load at h
 simp only[Sem.runT] at h
 cases hc:v.cell? a with
 |some y=>rw[hc] at h;simp[Sem.runT] at h
 |none=>
  rw[hc] at h
  unfold World.farLoad at h
  cases hb:v.heap[a.block]? with
  |none=>
   rw[hb] at h
   simp only[World.noCell,hb,Prod.mk.injEq,Result.halt.injEq] at h
   rw[←h.1.1];trivial
  |some o=>
   rw[hb] at h
   have hn2:=hn _ _ hb
   cases o with
   |view a2 u2=>
    simp only[viewLoad_odd v (nview_view hn hb),Prod.mk.injEq,Result.halt.injEq] at h
    rw[←h.1.1]
    exact fun g hg=>by cases hg
   |pending c2 t2=>rcases hn2 with h2|h2<;>cases h2
   |_=>simp only[World.noCell,hb,Prod.mk.injEq,Result.halt.injEq] at h;rw[←h.1.1];trivial
theorem simu_load (a:Addr):Simu P H (load a):=⟨fun _=>sok_load a,fun v es x v' es' hn h=>⟨load_halt hn h,0,fun u fs hs _=>by
 unfold load at h⊢
 simp only[Sem.runT,hs.cell,far_same hn hs] at h⊢
 cases hc:v.cell? a with
 |some y=>rw[hc] at h;simp[Sem.runT,-Sem.runT_eq] at h
 |none=>
  rw[hc] at h
  simp only at h⊢
  cases hf:v.farLoad P a (Mode.plain==Mode.atomic) with
  |ok r=>rw[hf] at h;simp[Sem.runT,-Sem.runT_eq] at h
  |error z=>
   rw[hf] at h
   simp only[Prod.mk.injEq,Result.halt.injEq] at h
   rw[←h.1.1]
   exact⟨u,fs,rfl⟩⟩⟩
theorem simu_store (a:Addr) (y:Value):Simu P H (store a y):=by
 refine⟨fun _=>sok_store a y,fun v es x v' es' hn h=> ?_⟩
 unfold store at h⊢
 by_cases hx:(∃z,y=.agg z)∨∃z,y=.tuple z
 ·rcases hx with⟨z,rfl⟩|⟨z,rfl⟩<;>
  ·simp only[Sem.runT,Prod.mk.injEq,Result.halt.injEq] at h
   rw[←h.1.1]
   exact⟨trivial,0,fun u fs _ _=>⟨u,fs,rfl⟩⟩
 have hrun:∀(w:World) (fs:Array Event),(Sem.store Mode.plain a y (.pure ()):Sem Unit).runT P w fs=match w.cell? a with
  |some _=>if w.frozen? a then(.halt (.unsupported (.unsafePointer "a write to bytes that a string shares")) w,fs) else(.ok () (w.setCell a y),fs.push ⟨.cell a,true,false⟩)
  |none=>match w.farStore P a y (Mode.plain==Mode.atomic) with
   | .ok (w,touched)=>(.ok () w,fs++touched.toArray.map (⟨.cell ·,true,Mode.plain==Mode.atomic⟩))
   | .error h=>(.halt h w,fs):=by
  intro w fs
  cases y<;>first|rfl|exact absurd (.inl ⟨_,rfl⟩) hx|exact absurd (.inr ⟨_,rfl⟩) hx
 rw[hrun] at h
 have hfar:∀z,v.farStore P a y (Mode.plain==Mode.atomic)=.error z→GoodH z:=by
  intro z hz
  unfold World.farStore at hz
  cases hb:v.heap[a.block]? with
  |none=>rw[hb] at hz;simp only[World.noCell,hb,Except.error.injEq] at hz;rw[←hz];trivial
  |some o=>
   rw[hb] at hz
   have hn2:=hn _ _ hb
   cases o with
   |view a2 u2=>
    simp only[viewStore_odd v (nview_view hn hb),Except.error.injEq] at hz
    rw[←hz]
    exact fun g hg=>by cases hg
   |pending c2 t2=>rcases hn2 with h2|h2<;>cases h2
   |_=>simp only[World.noCell,hb,Except.error.injEq] at hz;rw[←hz];trivial
 cases hc:v.cell? a with
 |some z=>
  rw[hc] at h
  cases hf:v.frozen? a with
  |false=>rw[hf] at h;simp at h
  |true=>
   rw[hf] at h
   simp only[if_true,Prod.mk.injEq,Result.halt.injEq] at h
   rw[←h.1.1]
   exact⟨fun g hg=>(by cases hg),0,fun u fs hs _=>⟨u,fs,by rw[hrun,hs.cell,hc,hs.frozen,hf];rfl⟩⟩
 |none=>
  rw[hc] at h
  obtain⟨z0,hz0,_⟩:=farStore_same (P:=P) hn (⟨rfl,rfl,rfl⟩:Same v v) a y (Mode.plain==Mode.atomic)
  rw[hz0] at h
  simp only[Prod.mk.injEq,Result.halt.injEq] at h
  rw[←h.1.1]
  refine⟨hfar _ hz0,0,fun u fs hs _=>⟨u,fs, ?_⟩⟩
  obtain⟨z1,hz1,hz2⟩:=farStore_same (P:=P) hn hs a y (Mode.plain==Mode.atomic)
  rw[hz0] at hz2
  cases hz2
  rw[hrun,hs.cell,hc,hz1]
theorem simu_newObj (o:Obj) (ho:plainO o=true):Simu P H (newObj o):=⟨fun _=>sok_newObj o ho,fun v es x v' es' _ h=>by simp[newObj,Sem.runT,-Sem.runT_eq] at h⟩
theorem simu_new (c:Array Value) (t:TypeId):Simu P H (newObj (.cells c t)):=simu_newObj _ rfl
theorem simu_choose (q:Question):Simu P H (choose q):=⟨fun _=>sok_choose q,fun v es x v' es' _ h=>by
 unfold choose at h
 simp only[Sem.runT] at h
 split at h<;>simp[Sem.runT,-Sem.runT_eq] at h⟩
theorem simu_program:Simu P H program:=⟨fun _=>sok_program,fun v es x v' es' _ h=>by simp[program,Sem.runT,-Sem.runT_eq] at h⟩
theorem simu_program_bind {f:Program→Sem β} (h:Simu P H (f P)):Simu P H (program>>=f):=h
theorem simu_frozen (a:Addr):Simu P H (frozen a):=⟨fun _=>sok_frozen a,fun v es x v' es' _ h=>by simp[frozen,Sem.runT,-Sem.runT_eq] at h⟩
theorem simu_noRoom:Simu P H (mark .noRoom):=⟨fun _=>sok_noRoom,fun v es x v' es' _ h=>by simp[mark,Sem.runT,-Sem.runT_eq] at h⟩
theorem simu_map {f:α→β} {x:Sem α} (hx:Simu P H x):Simu P H (f<$>x):=simu_bind hx fun _=>simu_pure _
theorem simu_shape_bind {r:Nat} {f:Option (TypeId×Nat)→Sem β} (hf:∀o,Simu P H (f o)) (hb:∀e n m,n≤m→(∀w fs,(f (some (e,m))).runT P w fs=(f (some (e,n))).runT P w fs)∨∀v es a v' es',(f (some (e,n))).runT P v es≠(.ok a v',es')):Simu P H (shape r>>=f):=
 ⟨fun H'=>sok_shape_bind (fun o=>(hf o).1 H') hb,fun v es x v' es' hn h=>by
  obtain⟨h1,k,h2⟩:=(hf (v.shape? r)).2 v es x v' es' hn h
  refine⟨h1,k,fun u fs hs ha=> ?_⟩
  have e:u.shape? r=v.shape? r:=by unfold World.shape?;rw[hs.heap]
  obtain⟨u',gs,h3⟩:=h2 u fs hs ha
  exact⟨u',gs,by rw[←h3,←e];rfl⟩⟩
theorem simu_getObj_bind {r:Nat} {f:Obj→Sem β} (hf:∀o,(∀c t f,o≠.cells c t f)→plainO o=true→Simu P H (f o))
 (hfo:Simu P H (f oddV)) (hod:(∀o,plainO o=false→f o=f oddV)∨∀v es a v' es',(f oddV).runT P v es≠(.ok a v',es'))
 (hc:(∀a b c d e g,f (.coro none)=f (.chan a b c d e g))∨∀v es a v' es',(f (.coro none)).runT P v es≠(.ok a v',es')):Simu P H (getObj r>>=f):=by
 refine⟨fun H'=>sok_getObj_bind (fun o h1 h2=>(hf o h1 h2).1 H') (hfo.1 H') hod hc,fun v es x v' es' hn h=> ?_⟩
 have hrun:∀(w:World) (fs:Array Event),(getObj r>>=f).runT P w fs=match w.heap[r]? with
  |some (.cells ..)=>(.halt (.stuck "getObj: a row of cells") w,fs)
  |some o=>(f o).runT P w (fs.push ⟨.obj r,false,o.isChan⟩)
  |none=>(.halt (.stuck "getObj: no such block") w,fs):=by
  intro w fs
  simp only[getObj,Bind.bind,Sem.bind,Sem.runT]
  rcases w.heap[r]? with _|o
  ·rfl
  ·cases o<;>rfl
 rw[hrun] at h
 cases hr:v.heap[r]? with
 |none=>
  rw[hr] at h
  simp only[Prod.mk.injEq,Result.halt.injEq] at h
  rw[←h.1.1]
  exact⟨trivial,0,fun u fs hs _=>⟨u,fs,by rw[hrun,hs.heap,hr]⟩⟩
 |some o=>
  rw[hr] at h
  have hp:(∀c t g,o≠.cells c t g)→Simu P H (f o):=fun h1=>by
   rcases hn r o hr with h2|h2
   ·exact hf o h1 h2
   ·rw[h2];exact hfo
  by_cases hcell:∃c t g,o=.cells c t g
  ·obtain⟨c,t,g,rfl⟩:=hcell
   simp only[Prod.mk.injEq,Result.halt.injEq] at h
   rw[←h.1.1]
   exact⟨trivial,0,fun u fs hs _=>⟨u,fs,by rw[hrun,hs.heap,hr]⟩⟩
  ·have hnc:∀c t g,o≠.cells c t g:=fun c t g e=>hcell ⟨c,t,g,e⟩
   have h':(f o).runT P v (es.push ⟨.obj r,false,o.isChan⟩)=(.halt x v',es'):=by
    cases o<;>first|exact h|exact absurd rfl (hnc _ _ _)
   obtain⟨h1,k,h2⟩:=(hp hnc).2 _ _ _ _ _ hn h'
   refine⟨h1,k,fun u fs hs ha=> ?_⟩
   obtain⟨u',gs,h3⟩:=h2 u (fs.push ⟨.obj r,false,o.isChan⟩) hs ha
   refine⟨u',gs, ?_⟩
   rw[hrun,hs.heap,hr]
   cases o<;>first|exact h3|exact absurd rfl (hnc _ _ _)
theorem simu_eqT {s t:Sem α} (h:∀(w:World) (es:Array Event),s.runT P w es=t.runT P w es) (ht:Simu P H t):Simu P H s:=by
 refine⟨fun H' v a v' es es' hn hH e=> ?_,fun v es x v' es' hn e=> ?_⟩
 ·rw[h] at e
  obtain⟨a1,a2,a3,k,a4,F⟩:=ht.1 H' v a v' es es' hn hH e
  exact⟨a1,a2,a3,k,a4,fun w fs hv hq=>by rw[h];exact F w fs hv hq⟩
 ·rw[h] at e
  obtain⟨a1,k,F⟩:=ht.2 v es x v' es' hn e
  exact⟨a1,k,fun u fs hs ha=>by rw[h];exact F u fs hs ha⟩
theorem simu_stuck (s:String):Simu P H (stuck s:Sem α):=simu_halt _ trivial
theorem simu_unsupported (u:Unsupported) (hu:∀g,u≠.initOrder g):Simu P H (unsupported u:Sem α):=simu_halt _ hu
theorem simu_goPanic (x:Value):Simu P H (goPanic x:Sem α):=simu_halt _ trivial
theorem simu_askRoom (n:Nat):Simu P H (askRoom n):=by
 unfold askRoom
 split
 ·exact simu_noRoom
 ·exact simu_pure' _
theorem simu_ite {c:Prop} [Decidable c] {x y:Sem α} (hx:Simu P H x) (hy:Simu P H y):Simu P H (if c then x else y):=by split<;>assumption
end
end Co
end Go.Proofs.Ytlngbdggehghgaa

namespace Go.Proofs.Ytlngbdggehghgaa
set_option linter.unusedSimpArgs false
set_option linter.unusedVariables false
namespace Co
section
variable {α β:Type} {P:Program} {H:Nat→Option Nat}
theorem simu_typeInfo (t:TypeId):Simu P H (typeInfo t):=by
 unfold typeInfo
 refine simu_program_bind ?_
 repeat' (first
  |exact simu_pure' _
  |exact simu_pure _
  |exact simu_unsupported _ (fun _ h=>by cases h)
  |exact simu_stuck _
  |exact simu_goPanic _
  |assumption
  |dsimp only
  |exact simu_choose _
  |exact simu_frozen _
  |exact simu_askRoom _
  |exact simu_noRoom
  |exact simu_load _
  |exact simu_store _ _
  |exact simu_program
  |refine simu_map ?_
  |refine simu_bind' ?_ (fun _=> ?_)
  |refine simu_ite ?_ ?_
  |split)
theorem simu_underlying (t:TypeId):Simu P H (underlying t):=by
 unfold underlying
 refine simu_program_bind ?_
 repeat' (first
  |exact simu_pure' _
  |exact simu_pure _
  |exact simu_unsupported _ (fun _ h=>by cases h)
  |exact simu_stuck _
  |exact simu_goPanic _
  |assumption
  |dsimp only
  |exact simu_typeInfo _
  |exact simu_choose _
  |exact simu_frozen _
  |exact simu_askRoom _
  |exact simu_noRoom
  |exact simu_load _
  |exact simu_store _ _
  |exact simu_program
  |refine simu_map ?_
  |refine simu_bind' ?_ (fun _=> ?_)
  |refine simu_ite ?_ ?_
  |split)
theorem simu_sizeOf (t:TypeId):Simu P H (sizeOf t):=by
 unfold sizeOf
 repeat' (first
  |exact simu_pure' _
  |exact simu_pure _
  |exact simu_unsupported _ (fun _ h=>by cases h)
  |exact simu_stuck _
  |exact simu_goPanic _
  |assumption
  |dsimp only
  |exact simu_typeInfo _
  |exact simu_underlying _
  |exact simu_choose _
  |exact simu_frozen _
  |exact simu_askRoom _
  |exact simu_noRoom
  |exact simu_load _
  |exact simu_store _ _
  |exact simu_program
  |refine simu_map ?_
  |refine simu_bind' ?_ (fun _=> ?_)
  |refine simu_ite ?_ ?_
  |split)
theorem simu_isAgg (t:TypeId):Simu P H (isAgg t):=by
 unfold isAgg
 repeat' (first
  |exact simu_pure' _
  |exact simu_pure _
  |exact simu_unsupported _ (fun _ h=>by cases h)
  |exact simu_stuck _
  |exact simu_goPanic _
  |assumption
  |dsimp only
  |exact simu_typeInfo _
  |exact simu_underlying _
  |exact simu_sizeOf _
  |exact simu_choose _
  |exact simu_frozen _
  |exact simu_askRoom _
  |exact simu_noRoom
  |exact simu_load _
  |exact simu_store _ _
  |exact simu_program
  |refine simu_map ?_
  |refine simu_bind' ?_ (fun _=> ?_)
  |refine simu_ite ?_ ?_
  |split)
theorem simu_zeroValue (t:TypeId):Simu P H (zeroValue t):=by
 unfold zeroValue
 repeat' (first
  |exact simu_pure' _
  |exact simu_pure _
  |exact simu_unsupported _ (fun _ h=>by cases h)
  |exact simu_stuck _
  |exact simu_goPanic _
  |assumption
  |dsimp only
  |exact simu_typeInfo _
  |exact simu_underlying _
  |exact simu_sizeOf _
  |exact simu_isAgg _
  |exact simu_choose _
  |exact simu_frozen _
  |exact simu_askRoom _
  |exact simu_noRoom
  |exact simu_load _
  |exact simu_store _ _
  |exact simu_program
  |refine simu_map ?_
  |refine simu_bind' ?_ (fun _=> ?_)
  |refine simu_ite ?_ ?_
  |split)
theorem simu_newRow (t:TypeId) (c:Array Value):Simu P H (newRow t c):=by
 unfold newRow
 exact simu_bind' (simu_new _ _) fun _=>simu_pure' _
theorem simu_newVar (t:TypeId) (c:Value):Simu P H (newVar t c):=by
 exact simu_newRow _ _
theorem simu_elemOf (t:TypeId):Simu P H (elemOf t):=by
 unfold elemOf
 repeat' (first
  |exact simu_pure' _
  |exact simu_pure _
  |exact simu_unsupported _ (fun _ h=>by cases h)
  |exact simu_stuck _
  |exact simu_goPanic _
  |assumption
  |dsimp only
  |exact simu_typeInfo _
  |exact simu_underlying _
  |exact simu_sizeOf _
  |exact simu_isAgg _
  |exact simu_zeroValue _
  |exact simu_newRow _ _
  |exact simu_newVar _ _
  |exact simu_choose _
  |exact simu_frozen _
  |exact simu_askRoom _
  |exact simu_noRoom
  |exact simu_load _
  |exact simu_store _ _
  |exact simu_program
  |refine simu_map ?_
  |refine simu_bind' ?_ (fun _=> ?_)
  |refine simu_ite ?_ ?_
  |split)
theorem simu_runtimePanic (e:RuntimeError):Simu P H (runtimePanic e:Sem α):=by
 unfold runtimePanic
 refine simu_program_bind ?_
 cases e
 all_goals dsimp only
 all_goals repeat' (first
  |exact simu_pure' _
  |exact simu_pure _
  |exact simu_unsupported _ (fun _ h=>by cases h)
  |exact simu_stuck _
  |exact simu_goPanic _
  |assumption
  |dsimp only
  |exact simu_typeInfo _
  |exact simu_underlying _
  |exact simu_sizeOf _
  |exact simu_isAgg _
  |exact simu_zeroValue _
  |exact simu_newRow _ _
  |exact simu_newVar _ _
  |exact simu_choose _
  |exact simu_frozen _
  |exact simu_askRoom _
  |exact simu_noRoom
  |exact simu_load _
  |exact simu_store _ _
  |exact simu_elemOf _
  |exact simu_program
  |refine simu_map ?_
  |refine simu_bind' ?_ (fun _=> ?_)
  |refine simu_ite ?_ ?_
  |split)
theorem simu_boundsPanic (k:IntKind) (x y:Int) (c:BoundsCode):Simu P H (boundsPanic k x y c:Sem α):=by
 unfold boundsPanic
 repeat' (first
  |exact simu_pure' _
  |exact simu_pure _
  |exact simu_unsupported _ (fun _ h=>by cases h)
  |exact simu_stuck _
  |exact simu_goPanic _
  |assumption
  |dsimp only
  |exact simu_runtimePanic _
  |exact simu_typeInfo _
  |exact simu_underlying _
  |exact simu_sizeOf _
  |exact simu_isAgg _
  |exact simu_zeroValue _
  |exact simu_newRow _ _
  |exact simu_newVar _ _
  |exact simu_choose _
  |exact simu_frozen _
  |exact simu_askRoom _
  |exact simu_noRoom
  |exact simu_load _
  |exact simu_store _ _
  |exact simu_elemOf _
  |exact simu_program
  |refine simu_map ?_
  |refine simu_bind' ?_ (fun _=> ?_)
  |refine simu_ite ?_ ?_
  |split)
theorem simu_asIntOf (v:Value):Simu P H (asIntOf v):=by
 unfold asIntOf
 repeat' (first
  |exact simu_pure' _
  |exact simu_pure _
  |exact simu_unsupported _ (fun _ h=>by cases h)
  |exact simu_stuck _
  |exact simu_goPanic _
  |assumption
  |dsimp only
  |exact simu_runtimePanic _
  |exact simu_boundsPanic _ _ _ _
  |exact simu_typeInfo _
  |exact simu_underlying _
  |exact simu_sizeOf _
  |exact simu_isAgg _
  |exact simu_zeroValue _
  |exact simu_newRow _ _
  |exact simu_newVar _ _
  |exact simu_choose _
  |exact simu_frozen _
  |exact simu_askRoom _
  |exact simu_noRoom
  |exact simu_load _
  |exact simu_store _ _
  |exact simu_elemOf _
  |exact simu_program
  |refine simu_map ?_
  |refine simu_bind' ?_ (fun _=> ?_)
  |refine simu_ite ?_ ?_
  |split)
theorem simu_asInt (v:Value):Simu P H (asInt v):=by
 unfold asInt
 repeat' (first
  |exact simu_pure' _
  |exact simu_pure _
  |exact simu_unsupported _ (fun _ h=>by cases h)
  |exact simu_stuck _
  |exact simu_goPanic _
  |assumption
  |dsimp only
  |exact simu_runtimePanic _
  |exact simu_boundsPanic _ _ _ _
  |exact simu_typeInfo _
  |exact simu_underlying _
  |exact simu_sizeOf _
  |exact simu_isAgg _
  |exact simu_zeroValue _
  |exact simu_newRow _ _
  |exact simu_newVar _ _
  |exact simu_asIntOf _
  |exact simu_choose _
  |exact simu_frozen _
  |exact simu_askRoom _
  |exact simu_noRoom
  |exact simu_load _
  |exact simu_store _ _
  |exact simu_elemOf _
  |exact simu_program
  |refine simu_map ?_
  |refine simu_bind' ?_ (fun _=> ?_)
  |refine simu_ite ?_ ?_
  |split)
theorem simu_asBool (v:Value):Simu P H (asBool v):=by
 unfold asBool
 repeat' (first
  |exact simu_pure' _
  |exact simu_pure _
  |exact simu_unsupported _ (fun _ h=>by cases h)
  |exact simu_stuck _
  |exact simu_goPanic _
  |assumption
  |dsimp only
  |exact simu_runtimePanic _
  |exact simu_boundsPanic _ _ _ _
  |exact simu_typeInfo _
  |exact simu_underlying _
  |exact simu_sizeOf _
  |exact simu_isAgg _
  |exact simu_zeroValue _
  |exact simu_newRow _ _
  |exact simu_newVar _ _
  |exact simu_asIntOf _
  |exact simu_asInt _
  |exact simu_choose _
  |exact simu_frozen _
  |exact simu_askRoom _
  |exact simu_noRoom
  |exact simu_load _
  |exact simu_store _ _
  |exact simu_elemOf _
  |exact simu_program
  |refine simu_map ?_
  |refine simu_bind' ?_ (fun _=> ?_)
  |refine simu_ite ?_ ?_
  |split)
theorem simu_asString (v:Value):Simu P H (asString v):=by
 unfold asString
 repeat' (first
  |exact simu_pure' _
  |exact simu_pure _
  |exact simu_unsupported _ (fun _ h=>by cases h)
  |exact simu_stuck _
  |exact simu_goPanic _
  |assumption
  |dsimp only
  |exact simu_runtimePanic _
  |exact simu_boundsPanic _ _ _ _
  |exact simu_typeInfo _
  |exact simu_underlying _
  |exact simu_sizeOf _
  |exact simu_isAgg _
  |exact simu_zeroValue _
  |exact simu_newRow _ _
  |exact simu_newVar _ _
  |exact simu_asIntOf _
  |exact simu_asInt _
  |exact simu_asBool _
  |exact simu_choose _
  |exact simu_frozen _
  |exact simu_askRoom _
  |exact simu_noRoom
  |exact simu_load _
  |exact simu_store _ _
  |exact simu_elemOf _
  |exact simu_program
  |refine simu_map ?_
  |refine simu_bind' ?_ (fun _=> ?_)
  |refine simu_ite ?_ ?_
  |split)
theorem simu_asAgg (v:Value):Simu P H (asAgg v):=by
 unfold asAgg
 repeat' (first
  |exact simu_pure' _
  |exact simu_pure _
  |exact simu_unsupported _ (fun _ h=>by cases h)
  |exact simu_stuck _
  |exact simu_goPanic _
  |assumption
  |dsimp only
  |exact simu_runtimePanic _
  |exact simu_boundsPanic _ _ _ _
  |exact simu_typeInfo _
  |exact simu_underlying _
  |exact simu_sizeOf _
  |exact simu_isAgg _
  |exact simu_zeroValue _
  |exact simu_newRow _ _
  |exact simu_newVar _ _
  |exact simu_asIntOf _
  |exact simu_asInt _
  |exact simu_asBool _
  |exact simu_asString _
  |exact simu_choose _
  |exact simu_frozen _
  |exact simu_askRoom _
  |exact simu_noRoom
  |exact simu_load _
  |exact simu_store _ _
  |exact simu_elemOf _
  |exact simu_program
  |refine simu_map ?_
  |refine simu_bind' ?_ (fun _=> ?_)
  |refine simu_ite ?_ ?_
  |split)
theorem simu_asAddr (v:Value):Simu P H (asAddr v):=by
 unfold asAddr
 repeat' (first
  |exact simu_pure' _
  |exact simu_pure _
  |exact simu_unsupported _ (fun _ h=>by cases h)
  |exact simu_stuck _
  |exact simu_goPanic _
  |assumption
  |dsimp only
  |exact simu_runtimePanic _
  |exact simu_boundsPanic _ _ _ _
  |exact simu_typeInfo _
  |exact simu_underlying _
  |exact simu_sizeOf _
  |exact simu_isAgg _
  |exact simu_zeroValue _
  |exact simu_newRow _ _
  |exact simu_newVar _ _
  |exact simu_asIntOf _
  |exact simu_asInt _
  |exact simu_asBool _
  |exact simu_asString _
  |exact simu_asAgg _
  |exact simu_choose _
  |exact simu_frozen _
  |exact simu_askRoom _
  |exact simu_noRoom
  |exact simu_load _
  |exact simu_store _ _
  |exact simu_elemOf _
  |exact simu_program
  |refine simu_map ?_
  |refine simu_bind' ?_ (fun _=> ?_)
  |refine simu_ite ?_ ?_
  |split)
theorem simu_sureAddr (v:Value):Simu P H (Instr.sureAddr v):=by
 unfold Instr.sureAddr
 repeat' (first
  |exact simu_pure' _
  |exact simu_pure _
  |exact simu_unsupported _ (fun _ h=>by cases h)
  |exact simu_stuck _
  |exact simu_goPanic _
  |assumption
  |dsimp only
  |exact simu_runtimePanic _
  |exact simu_boundsPanic _ _ _ _
  |exact simu_typeInfo _
  |exact simu_underlying _
  |exact simu_sizeOf _
  |exact simu_isAgg _
  |exact simu_zeroValue _
  |exact simu_newRow _ _
  |exact simu_newVar _ _
  |exact simu_asIntOf _
  |exact simu_asInt _
  |exact simu_asBool _
  |exact simu_asString _
  |exact simu_asAgg _
  |exact simu_asAddr _
  |exact simu_choose _
  |exact simu_frozen _
  |exact simu_askRoom _
  |exact simu_noRoom
  |exact simu_load _
  |exact simu_store _ _
  |exact simu_elemOf _
  |exact simu_program
  |refine simu_map ?_
  |refine simu_bind' ?_ (fun _=> ?_)
  |refine simu_ite ?_ ?_
  |split)
theorem simu_loadCellsFrom (a:Addr):∀(n i:Nat) (acc:Array Value),Simu P H (loadCellsFrom a i n acc)
 |0,_,_=>simu_pure' _
 |n+1,i,acc=>by
  unfold loadCellsFrom
  exact simu_bind' (simu_load _) fun v=>simu_loadCellsFrom a n (i+1) (acc.push v)
theorem simu_loadCells (a:Addr) (n:Nat):Simu P H (loadCells a n):=simu_loadCellsFrom a n 0 #[]
theorem simu_storeCells (a:Addr):∀(l:List Value) (i:Nat),Simu P H (storeCells a l i)
 |[],_=>simu_pure' _
 |v::l,i=>by
  unfold storeCells
  exact simu_bind' (simu_store _ _) fun _=>simu_storeCells a l (i+1)
theorem simu_loadVar (t:TypeId) (a:Addr):Simu P H (loadVar t a):=by
 unfold loadVar
 repeat' (first
  |exact simu_pure' _
  |exact simu_pure _
  |exact simu_unsupported _ (fun _ h=>by cases h)
  |exact simu_stuck _
  |exact simu_goPanic _
  |assumption
  |dsimp only
  |exact simu_runtimePanic _
  |exact simu_boundsPanic _ _ _ _
  |exact simu_typeInfo _
  |exact simu_underlying _
  |exact simu_sizeOf _
  |exact simu_isAgg _
  |exact simu_zeroValue _
  |exact simu_loadCells _ _
  |exact simu_storeCells _ _ _
  |exact simu_newRow _ _
  |exact simu_newVar _ _
  |exact simu_asIntOf _
  |exact simu_asInt _
  |exact simu_asBool _
  |exact simu_asString _
  |exact simu_asAgg _
  |exact simu_asAddr _
  |exact simu_sureAddr _
  |exact simu_choose _
  |exact simu_frozen _
  |exact simu_askRoom _
  |exact simu_noRoom
  |exact simu_load _
  |exact simu_store _ _
  |exact simu_elemOf _
  |exact simu_program
  |refine simu_map ?_
  |refine simu_bind' ?_ (fun _=> ?_)
  |refine simu_ite ?_ ?_
  |split)
theorem simu_storeVar (t:TypeId) (a:Addr) (v:Value):Simu P H (storeVar t a v):=by
 unfold storeVar
 repeat' (first
  |exact simu_pure' _
  |exact simu_pure _
  |exact simu_unsupported _ (fun _ h=>by cases h)
  |exact simu_stuck _
  |exact simu_goPanic _
  |assumption
  |dsimp only
  |exact simu_runtimePanic _
  |exact simu_boundsPanic _ _ _ _
  |exact simu_typeInfo _
  |exact simu_underlying _
  |exact simu_sizeOf _
  |exact simu_isAgg _
  |exact simu_zeroValue _
  |exact simu_loadCells _ _
  |exact simu_storeCells _ _ _
  |exact simu_loadVar _ _
  |exact simu_newRow _ _
  |exact simu_newVar _ _
  |exact simu_asIntOf _
  |exact simu_asInt _
  |exact simu_asBool _
  |exact simu_asString _
  |exact simu_asAgg _
  |exact simu_asAddr _
  |exact simu_sureAddr _
  |exact simu_choose _
  |exact simu_frozen _
  |exact simu_askRoom _
  |exact simu_noRoom
  |exact simu_load _
  |exact simu_store _ _
  |exact simu_elemOf _
  |exact simu_program
  |refine simu_map ?_
  |refine simu_bind' ?_ (fun _=> ?_)
  |refine simu_ite ?_ ?_
  |split)
theorem simu_part (t:TypeId) (c:Array Value) (n:Nat):Simu P H (part t c n):=by
 unfold part
 repeat' (first
  |exact simu_pure' _
  |exact simu_pure _
  |exact simu_unsupported _ (fun _ h=>by cases h)
  |exact simu_stuck _
  |exact simu_goPanic _
  |assumption
  |dsimp only
  |exact simu_runtimePanic _
  |exact simu_boundsPanic _ _ _ _
  |exact simu_typeInfo _
  |exact simu_underlying _
  |exact simu_sizeOf _
  |exact simu_isAgg _
  |exact simu_zeroValue _
  |exact simu_loadCells _ _
  |exact simu_storeCells _ _ _
  |exact simu_loadVar _ _
  |exact simu_storeVar _ _ _
  |exact simu_newRow _ _
  |exact simu_newVar _ _
  |exact simu_asIntOf _
  |exact simu_asInt _
  |exact simu_asBool _
  |exact simu_asString _
  |exact simu_asAgg _
  |exact simu_asAddr _
  |exact simu_sureAddr _
  |exact simu_choose _
  |exact simu_frozen _
  |exact simu_askRoom _
  |exact simu_noRoom
  |exact simu_load _
  |exact simu_store _ _
  |exact simu_elemOf _
  |exact simu_program
  |refine simu_map ?_
  |refine simu_bind' ?_ (fun _=> ?_)
  |refine simu_ite ?_ ?_
  |split)
theorem simu_numberAt (r:Nat):Simu P H (numberAt r):=by
 unfold numberAt
 refine simu_shape_bind (fun o=> ?_) (fun e n m _=> .inl fun _ _=>rfl)
 split
 ·exact simu_pure' _
 ·refine simu_getObj_bind (fun o h1 h2=> ?_) (simu_pure' _) (.inl fun o ho=>by cases o<;>first|rfl|cases ho) (.inl fun _ _ _ _ _ _=>rfl)
  split
  ·exact simu_pure' _
  ·exact simu_pure' _
theorem simu_viewAt_bind {r:Nat} {f:Option (Addr×TypeId)→Sem β} (h0:Simu P H (f none)) (h1:∀a t,Simu P H (f (some (a,t)))) (h2:∀a t v es b v' es',(f (some (a,t))).runT P v es≠(.ok b v',es')):Simu P H (viewAt r>>=f):=by
 refine simu_eqT (t:=shape r>>=fun o=>if o.isSome then f none else getObj r>>=fun o=>match o with
  | .view a t=>f (some (a,t))
  |_=>f none) (fun w es=> ?_) ?_
 ·unfold viewAt
  show(((shape r>>=fun o=>if o.isSome then pure none else getObj r>>=fun o=>match o with
   | .view a t=>pure (some (a,t))
   |_=>pure none):Sem (Option (Addr×TypeId)))>>=f).runT P w es=_
  simp only[Bind.bind,shape,getObj,Sem.bind,Sem.runT]
  cases hs:(w.shape? r).isSome with
  |true=>rfl
  |false=>
   simp only[Bool.false_eq_true,if_false,Sem.bind,Sem.runT]
   cases hw:w.heap[r]? with
   |none=>rfl
   |some o=>cases o<;>rfl
 ·refine simu_shape_bind (fun o=> ?_) (fun e n m _=> .inl fun _ _=>rfl)
  split
  ·exact h0
  ·refine simu_getObj_bind (fun o _ _=> ?_) (h1 _ _) (.inr (h2 _ _)) (.inl fun _ _ _ _ _ _=>rfl)
   split
   ·exact h1 _ _
   ·exact h0
theorem simu_noView (a:Addr):Simu P H (noView a):=by
 unfold noView
 exact simu_viewAt_bind (simu_pure' _) (fun _ _=>simu_unsupported _ (fun _ h=>by cases h)) (by simp[unsupported,Sem.runT,-Sem.runT_eq])
theorem simu_behind (a:Addr):Simu P H (behindNumber a):=by
 unfold behindNumber
 repeat' (first
  |exact simu_pure' _
  |exact simu_pure _
  |exact simu_unsupported _ (fun _ h=>by cases h)
  |exact simu_stuck _
  |exact simu_goPanic _
  |assumption
  |dsimp only
  |exact simu_runtimePanic _
  |exact simu_boundsPanic _ _ _ _
  |exact simu_typeInfo _
  |exact simu_underlying _
  |exact simu_sizeOf _
  |exact simu_isAgg _
  |exact simu_zeroValue _
  |exact simu_loadCells _ _
  |exact simu_storeCells _ _ _
  |exact simu_loadVar _ _
  |exact simu_storeVar _ _ _
  |exact simu_newRow _ _
  |exact simu_newVar _ _
  |exact simu_part _ _ _
  |exact simu_asIntOf _
  |exact simu_asInt _
  |exact simu_asBool _
  |exact simu_asString _
  |exact simu_asAgg _
  |exact simu_asAddr _
  |exact simu_sureAddr _
  |exact simu_choose _
  |exact simu_frozen _
  |exact simu_askRoom _
  |exact simu_noRoom
  |exact simu_load _
  |exact simu_store _ _
  |exact simu_numberAt _
  |exact simu_noView _
  |exact simu_elemOf _
  |exact simu_program
  |refine simu_map ?_
  |refine simu_bind' ?_ (fun _=> ?_)
  |refine simu_ite ?_ ?_
  |split)
theorem simu_byteOf (a:Addr):Simu P H (byteOf a):=by
 unfold byteOf
 split
 ·exact simu_pure' _
 ·refine simu_program_bind ?_
  refine simu_bind' (simu_noView _) fun _=> ?_
  refine simu_shape_bind (fun o=> ?_) (fun e n m _=> .inl fun _ _=>rfl)
  repeat' (first|exact simu_pure' _|exact simu_stuck _|dsimp only|split)
theorem simu_fieldPlace (a:Addr) (f:Field):Simu P H (fieldPlace a f):=by
 unfold fieldPlace
 refine simu_bind' (simu_sizeOf _) fun _=> ?_
 split
 ·unfold partAt
  repeat' (first
  |exact simu_pure' _
  |exact simu_pure _
  |exact simu_unsupported _ (fun _ h=>by cases h)
  |exact simu_stuck _
  |exact simu_goPanic _
  |assumption
  |dsimp only
  |exact simu_runtimePanic _
  |exact simu_boundsPanic _ _ _ _
  |exact simu_typeInfo _
  |exact simu_underlying _
  |exact simu_sizeOf _
  |exact simu_isAgg _
  |exact simu_zeroValue _
  |exact simu_loadCells _ _
  |exact simu_storeCells _ _ _
  |exact simu_loadVar _ _
  |exact simu_storeVar _ _ _
  |exact simu_newRow _ _
  |exact simu_newVar _ _
  |exact simu_part _ _ _
  |exact simu_asIntOf _
  |exact simu_asInt _
  |exact simu_asBool _
  |exact simu_asString _
  |exact simu_asAgg _
  |exact simu_asAddr _
  |exact simu_sureAddr _
  |exact simu_choose _
  |exact simu_frozen _
  |exact simu_askRoom _
  |exact simu_noRoom
  |exact simu_load _
  |exact simu_store _ _
  |exact simu_numberAt _
  |exact simu_noView _
  |exact simu_byteOf _
  |exact simu_behind _
  |exact simu_elemOf _
  |exact simu_program
  |refine simu_map ?_
  |refine simu_bind' ?_ (fun _=> ?_)
  |refine simu_ite ?_ ?_
  |split)
 ·exact simu_pure' _
end
end Co
end Go.Proofs.Ytlngbdggehghgaa

namespace Go.Proofs.Ytlngbdggehghgaa
set_option linter.unusedSimpArgs false
set_option linter.unusedVariables false
namespace Co
section
variable {α β:Type} {P:Program} {H:Nat→Option Nat}
def strB (w:World) (a:Addr):Bool:=w.frozen? a||match w.shape? a.block with
 |some (_,n)=>w.frozen? {block:=a.block,off:=n}
 | .none=>false
def empB (w:World) (a:Addr):Bool:=match w.shape? a.block with
 |some (_,0)=>true
 |_=>false
theorem run_stringish (w:World) (es:Array Event) (a:Addr):(stringish a).runT P w es=(.ok (strB w a) w,es):=by
 unfold stringish strB
 simp only[frozen,shape,Bind.bind,Sem.bind,Sem.runT]
 cases w.frozen? a
 ·simp only[Bool.false_eq_true,if_false,Bool.false_or,Sem.runT]
  rcases w.shape? a.block with _|⟨e,n⟩<;>rfl
 ·rfl
theorem run_mayBeOne (w:World) (es:Array Event) (a b:Addr):
 (mayBeOne a b).runT P w es=(.ok ((strB w a&&strB w b)||(strB w a&&empB w a)||(strB w b&&empB w b)) w,es):=by
 unfold mayBeOne
 simp only[Bind.bind]
 rw[Sem.runT_bind',run_stringish]
 simp only
 rw[Sem.runT_bind',run_stringish]
 simp only[shape,Sem.bind,Sem.runT,pure]
 unfold empB
 rcases w.shape? a.block with _|⟨e,_|n⟩<;>rcases w.shape? b.block with _|⟨e',_|n'⟩<;>rfl
theorem Vis.hid_frozen {w v:World} (h:Vis H w v) {a:Addr} {n:Nat} (hH:H a.block=some n):w.frozen? a=false:=by
 unfold World.frozen?
 rcases h.kinds _ n hH with⟨c,t,e⟩|⟨_,_,_,_,_,_,e⟩|⟨o,e,hp⟩
 ·rw[e];simp
 ·rw[e]
 ·rw[e];cases o<;>first|rfl|cases hp
theorem Vis.strB {w v:World} (h:Vis H w v) (a:Addr):strB v a=strB w a:=by
 unfold Co.strB
 rw[h.frozen]
 congr 1
 rcases h.shape a.block with⟨e1,e2⟩|⟨e,n,m,e1,e2,e3,_⟩
 ·rw[e1,e2]
 ·rw[e1,e2]
  cases hH:H a.block with
  |none=>rw[e3 hH];exact h.frozen _
  |some k=>simp only;rw[h.frozen,h.hid_frozen (a:=⟨a.block,n,.none⟩) hH,h.hid_frozen (a:=⟨a.block,m,.none⟩) hH]
theorem Vis.empB {w v:World} (h:Vis H w v) (a:Addr) (hs:Co.strB w a=true):empB v a=empB w a:=by
 unfold Co.empB
 rcases h.shape a.block with⟨e1,e2⟩|⟨e,n,m,e1,e2,e3,_⟩
 ·rw[e1,e2]
 ·cases hH:H a.block with
  |none=>rw[e1,e2,e3 hH]
  |some k=>
   exfalso
   unfold Co.strB at hs
   rw[e2,h.hid_frozen hH] at hs
   simp only[Bool.false_or] at hs
   rw[h.hid_frozen (a:=⟨a.block,m,.none⟩) hH] at hs
   cases hs
theorem simu_mayBeOne (a b:Addr):Simu P H (mayBeOne a b):=by
 refine⟨fun H=> ?_,fun v es x v' es' _ h=>by rw[run_mayBeOne] at h;simp at h⟩
 intro v x v' es es' hn hH h
 rw[run_mayBeOne] at h
 simp only[Prod.mk.injEq,Result.ok.injEq] at h
 obtain⟨⟨rfl,rfl⟩,_⟩:=h
 refine⟨rfl,hn,Nat.le_refl _,0,rfl,fun w fs hv _=>⟨w,#[], ?_,hv,rfl,rfl,Hs.refl H w,by simp⟩⟩
 rw[run_mayBeOne,Array.append_empty,hv.strB,hv.strB]
 congr 2
 cases ha:Co.strB w a<;>cases hb:Co.strB w b<;>simp[hv.empB,ha,hb]
theorem simu_forInL {γ σ:Type} (l:List γ) (s:σ) (f:γ→σ→Sem (ForInStep σ)) (hf:∀a b,Simu P H (f a b)):Simu P H (forIn l s f):=by
 induction l generalizing s with
 |nil=>exact simu_pure' _
 |cons a l ih=>
  rw[List.forIn_cons]
  refine simu_bind' (hf _ _) fun r=> ?_
  cases r with
  |done b=>exact simu_pure' _
  |yield b=>exact ih b
theorem simu_forInA {γ σ:Type} (l:Array γ) (s:σ) (f:γ→σ→Sem (ForInStep σ)) (hf:∀a b,Simu P H (f a b)):Simu P H (forIn l s f):=by
 rw[←Array.forIn_toList]
 exact simu_forInL _ _ _ hf
theorem simu_forInR {σ:Type} (l:Std.Legacy.Range) (s:σ) (f:Nat→σ→Sem (ForInStep σ)) (hf:∀a b,Simu P H (f a b)):Simu P H (forIn l s f):=by
 rw[Std.Legacy.Range.forIn_eq_forIn_range']
 exact simu_forInL _ _ _ hf
theorem simu_sameAddr (a b:Addr):Simu P H (sameAddr a b):=by
 unfold sameAddr
 repeat' (first
  |exact simu_pure' _
  |exact simu_pure _
  |exact simu_unsupported _ (fun _ h=>by cases h)
  |exact simu_stuck _
  |exact simu_goPanic _
  |assumption
  |exact simu_mayBeOne _ _
  |dsimp only
  |exact simu_runtimePanic _
  |exact simu_boundsPanic _ _ _ _
  |exact simu_typeInfo _
  |exact simu_underlying _
  |exact simu_sizeOf _
  |exact simu_isAgg _
  |exact simu_zeroValue _
  |exact simu_loadCells _ _
  |exact simu_storeCells _ _ _
  |exact simu_loadVar _ _
  |exact simu_storeVar _ _ _
  |exact simu_newRow _ _
  |exact simu_newVar _ _
  |exact simu_part _ _ _
  |exact simu_asIntOf _
  |exact simu_asInt _
  |exact simu_asBool _
  |exact simu_asString _
  |exact simu_asAgg _
  |exact simu_asAddr _
  |exact simu_sureAddr _
  |exact simu_choose _
  |exact simu_frozen _
  |exact simu_askRoom _
  |exact simu_noRoom
  |exact simu_load _
  |exact simu_store _ _
  |exact simu_numberAt _
  |exact simu_noView _
  |exact simu_byteOf _
  |exact simu_fieldPlace _ _
  |exact simu_behind _
  |exact simu_elemOf _
  |refine simu_forInA _ _ _ (fun _ _=> ?_)
  |refine simu_forInR _ _ _ (fun _ _=> ?_)
  |exact simu_program
  |refine simu_map ?_
  |refine simu_bind' ?_ (fun _=> ?_)
  |refine simu_ite ?_ ?_
  |split)
theorem simu_samePointer (a b:Option Addr):Simu P H (samePointer a b):=by
 unfold samePointer
 repeat' (first
  |exact simu_pure' _
  |exact simu_pure _
  |exact simu_unsupported _ (fun _ h=>by cases h)
  |exact simu_stuck _
  |exact simu_goPanic _
  |assumption
  |dsimp only
  |exact simu_runtimePanic _
  |exact simu_boundsPanic _ _ _ _
  |exact simu_typeInfo _
  |exact simu_underlying _
  |exact simu_sizeOf _
  |exact simu_isAgg _
  |exact simu_zeroValue _
  |exact simu_loadCells _ _
  |exact simu_storeCells _ _ _
  |exact simu_loadVar _ _
  |exact simu_storeVar _ _ _
  |exact simu_newRow _ _
  |exact simu_newVar _ _
  |exact simu_part _ _ _
  |exact simu_asIntOf _
  |exact simu_asInt _
  |exact simu_asBool _
  |exact simu_asString _
  |exact simu_asAgg _
  |exact simu_asAddr _
  |exact simu_sureAddr _
  |exact simu_choose _
  |exact simu_frozen _
  |exact simu_askRoom _
  |exact simu_noRoom
  |exact simu_load _
  |exact simu_store _ _
  |exact simu_numberAt _
  |exact simu_noView _
  |exact simu_byteOf _
  |exact simu_fieldPlace _ _
  |exact simu_behind _
  |exact simu_sameAddr _ _
  |exact simu_elemOf _
  |refine simu_forInA _ _ _ (fun _ _=> ?_)
  |refine simu_forInR _ _ _ (fun _ _=> ?_)
  |exact simu_program
  |refine simu_map ?_
  |refine simu_bind' ?_ (fun _=> ?_)
  |refine simu_ite ?_ ?_
  |split)
theorem simu_typeStr (t:TypeId):Simu P H (typeStr t):=by
 unfold typeStr
 repeat' (first
  |exact simu_pure' _
  |exact simu_pure _
  |exact simu_unsupported _ (fun _ h=>by cases h)
  |exact simu_stuck _
  |exact simu_goPanic _
  |assumption
  |dsimp only
  |exact simu_runtimePanic _
  |exact simu_boundsPanic _ _ _ _
  |exact simu_typeInfo _
  |exact simu_underlying _
  |exact simu_sizeOf _
  |exact simu_isAgg _
  |exact simu_zeroValue _
  |exact simu_loadCells _ _
  |exact simu_storeCells _ _ _
  |exact simu_loadVar _ _
  |exact simu_storeVar _ _ _
  |exact simu_newRow _ _
  |exact simu_newVar _ _
  |exact simu_part _ _ _
  |exact simu_asIntOf _
  |exact simu_asInt _
  |exact simu_asBool _
  |exact simu_asString _
  |exact simu_asAgg _
  |exact simu_asAddr _
  |exact simu_sureAddr _
  |exact simu_choose _
  |exact simu_frozen _
  |exact simu_askRoom _
  |exact simu_noRoom
  |exact simu_load _
  |exact simu_store _ _
  |exact simu_numberAt _
  |exact simu_noView _
  |exact simu_byteOf _
  |exact simu_fieldPlace _ _
  |exact simu_behind _
  |exact simu_sameAddr _ _
  |exact simu_samePointer _ _
  |exact simu_elemOf _
  |refine simu_forInA _ _ _ (fun _ _=> ?_)
  |refine simu_forInR _ _ _ (fun _ _=> ?_)
  |exact simu_program
  |refine simu_map ?_
  |refine simu_bind' ?_ (fun _=> ?_)
  |refine simu_ite ?_ ?_
  |split)
set_option maxHeartbeats 4000000 in
theorem simu_equalIn:∀(d:Nat) (t:TypeId) (x y:Value),Simu P H (Op.equalIn d t x y)
 |0,_,_,_=>simu_unsupported _ (fun _ h=>by cases h)
 |d+1,t,x,y=>by
  have ih:=simu_equalIn d
  unfold Op.equalIn
  repeat' (first
   |exact simu_pure' _
   |exact simu_pure _
   |exact simu_unsupported _ (fun _ h=>by cases h)
   |exact simu_stuck _
   |exact simu_goPanic _
   |assumption
   |exact ih _ _ _
   |exact simu_typeStr _
   |dsimp only
   |exact simu_runtimePanic _
   |exact simu_boundsPanic _ _ _ _
   |exact simu_typeInfo _
   |exact simu_underlying _
   |exact simu_sizeOf _
   |exact simu_isAgg _
   |exact simu_zeroValue _
   |exact simu_loadCells _ _
   |exact simu_storeCells _ _ _
   |exact simu_loadVar _ _
   |exact simu_storeVar _ _ _
   |exact simu_newRow _ _
   |exact simu_newVar _ _
   |exact simu_part _ _ _
   |exact simu_asIntOf _
   |exact simu_asInt _
   |exact simu_asBool _
   |exact simu_asString _
   |exact simu_asAgg _
   |exact simu_asAddr _
   |exact simu_sureAddr _
   |exact simu_choose _
   |exact simu_frozen _
   |exact simu_askRoom _
   |exact simu_noRoom
   |exact simu_load _
   |exact simu_store _ _
   |exact simu_numberAt _
   |exact simu_noView _
   |exact simu_byteOf _
   |exact simu_fieldPlace _ _
   |exact simu_behind _
   |exact simu_sameAddr _ _
   |exact simu_samePointer _ _
   |exact simu_elemOf _
   |refine simu_forInA _ _ _ (fun _ _=> ?_)
   |refine simu_forInR _ _ _ (fun _ _=> ?_)
   |exact simu_program
   |refine simu_map ?_
   |refine simu_bind' ?_ (fun _=> ?_)
   |refine simu_ite ?_ ?_
   |split)
set_option maxHeartbeats 4000000 in
theorem simu_eqGuardIn:∀(d:Nat) (t:TypeId) (x y:Value),Simu P H (Op.eqGuardIn d t x y)
 |0,_,_,_=>simu_unsupported _ (fun _ h=>by cases h)
 |d+1,t,x,y=>by
  have ih:=simu_eqGuardIn d
  unfold Op.eqGuardIn
  repeat' (first
   |exact simu_pure' _
   |exact simu_pure _
   |exact simu_unsupported _ (fun _ h=>by cases h)
   |exact simu_stuck _
   |exact simu_goPanic _
   |assumption
   |exact ih _ _ _
   |dsimp only
   |exact simu_runtimePanic _
   |exact simu_boundsPanic _ _ _ _
   |exact simu_typeInfo _
   |exact simu_underlying _
   |exact simu_sizeOf _
   |exact simu_isAgg _
   |exact simu_zeroValue _
   |exact simu_loadCells _ _
   |exact simu_storeCells _ _ _
   |exact simu_loadVar _ _
   |exact simu_storeVar _ _ _
   |exact simu_newRow _ _
   |exact simu_newVar _ _
   |exact simu_part _ _ _
   |exact simu_asIntOf _
   |exact simu_asInt _
   |exact simu_asBool _
   |exact simu_asString _
   |exact simu_asAgg _
   |exact simu_asAddr _
   |exact simu_sureAddr _
   |exact simu_choose _
   |exact simu_frozen _
   |exact simu_askRoom _
   |exact simu_noRoom
   |exact simu_load _
   |exact simu_store _ _
   |exact simu_numberAt _
   |exact simu_noView _
   |exact simu_byteOf _
   |exact simu_fieldPlace _ _
   |exact simu_behind _
   |exact simu_sameAddr _ _
   |exact simu_samePointer _ _
   |exact simu_elemOf _
   |refine simu_forInA _ _ _ (fun _ _=> ?_)
   |refine simu_forInR _ _ _ (fun _ _=> ?_)
   |exact simu_program
   |refine simu_map ?_
   |refine simu_bind' ?_ (fun _=> ?_)
   |refine simu_ite ?_ ?_
   |split)
theorem simu_eqGuard (op:BinOp) (t:TypeId) (x y:Operand) (a b:Value):Simu P H (eqGuard op t x y a b):=by
 unfold eqGuard
 repeat' (first
  |exact simu_pure' _
  |exact simu_pure _
  |exact simu_unsupported _ (fun _ h=>by cases h)
  |exact simu_stuck _
  |exact simu_goPanic _
  |assumption
  |exact simu_eqGuardIn _ _ _ _
  |dsimp only
  |exact simu_runtimePanic _
  |exact simu_boundsPanic _ _ _ _
  |exact simu_typeInfo _
  |exact simu_underlying _
  |exact simu_sizeOf _
  |exact simu_isAgg _
  |exact simu_zeroValue _
  |exact simu_loadCells _ _
  |exact simu_storeCells _ _ _
  |exact simu_loadVar _ _
  |exact simu_storeVar _ _ _
  |exact simu_newRow _ _
  |exact simu_newVar _ _
  |exact simu_part _ _ _
  |exact simu_asIntOf _
  |exact simu_asInt _
  |exact simu_asBool _
  |exact simu_asString _
  |exact simu_asAgg _
  |exact simu_asAddr _
  |exact simu_sureAddr _
  |exact simu_choose _
  |exact simu_frozen _
  |exact simu_askRoom _
  |exact simu_noRoom
  |exact simu_load _
  |exact simu_store _ _
  |exact simu_numberAt _
  |exact simu_noView _
  |exact simu_byteOf _
  |exact simu_fieldPlace _ _
  |exact simu_behind _
  |exact simu_sameAddr _ _
  |exact simu_samePointer _ _
  |exact simu_elemOf _
  |refine simu_forInA _ _ _ (fun _ _=> ?_)
  |refine simu_forInR _ _ _ (fun _ _=> ?_)
  |exact simu_program
  |refine simu_map ?_
  |refine simu_bind' ?_ (fun _=> ?_)
  |refine simu_ite ?_ ?_
  |split)
end
end Co
end Go.Proofs.Ytlngbdggehghgaa

/-
  A company: one goroutine holds the token; the others are seated, on their way to their seats, leave, or (the doers) do what changes hidden cells alone. A tree of steps (Dem) is carried out by the machine beside them, on whatever tape. Conditions: as each theorem says.
  A logic for the goroutine that holds the token (Co): from here the machine comes to what is wanted. Its rules: a piece of plain code, one step, one operation, moves of control, calls. Conditions: as each theorem says.
  Goroutines whose channel has been closed (the doers): they come to their receive, leave their loop, and take themselves off the group's count: what their steps do to the company. Conditions: as each theorem says.
  The company of a scheduler: its runners, who sits, who has been let go; a doer's step keeps it. Conditions: as each theorem says.
-/
import Derived.Test.YtlngbdggehghgaaCoL
namespace Go.Proofs.Ytlngbdggehghgaa
set_option linter.unusedSimpArgs false
set_option linter.unusedVariables false
namespace Co
open Go.Conc
open Go.ConcN (sumTo upd sumTo_upd upd_ne upd_same)
section
variable {ρ:Bool} {P:Program} {L:Nat→Bool} {M:String→Bool} {H:Nat→Option Nat} {b:Frame}
theorem wp_dem (T:Texts P L M) (hk:b.kind≠.early) (hρ:ρ=true→b.kind=.normal) {R:Array Value→World→Prop} {c:Code} {tmps:Array Value} {v:World} (hc:plainCode P L M c=true) (hcl:closedC ρ [] c=true)
 (hn:nview v.heap) (hH:∀r n,H r=some n→r<v.heap.size)
 (hwp:∀u,Same u v→c.wp P (fun e a w=>e=.normal∧a.defers=[]∧R a.tmps w) ⟨tmps,[]⟩ u):
 Dem P H b (fun tm v'=> ∃v'',Same v'' v'∧R tm v'') (.run [] tmps [.code c]) v:=by
 refine assemble T hk hρ ⟨by simp[plainItem,hc],by simp[closedL,closedI,blocks,hcl]⟩ hn hH fun u hu=> ?_
 obtain⟨e,a',vf,⟨rfl,h2,h3⟩,h4⟩:=hwp u hu b Kx [Cx]
 obtain⟨n,hn⟩:=h4
 refine⟨n,a'.tmps,vf, ?_,h3⟩
 unfold LoneRun
 obtain⟨tm,df⟩:=a'
 simp only at h2
 subst h2
 exact hn
structure Hides (H:Nat→Option Nat) (K:World→Prop) (Still:Loc→Prop) (Inb:Nat→Option Seat):Prop where
 keep:∀w w',Hs H w w'→K w→K w'
 at_:∀w d,K w→K (w.at d)
 still:∀l,Still l→∃a n,l=.cell a∧H a.block=some n∧n≤a.off
 chan:∀i s c,Inb i=some s→s.has c→∃n,H c=some n
variable {K:World→Prop} {Still:Loc→Prop} {Mem:Nat→Prop} {Inb:Nat→Option Seat} {h:Nat}
theorem EvOk.hd (D:Hides H K Still Inb) {B:Nat} {e:Event} (he:EvOk H B e):EvHd Still B e:=by
 rcases he with⟨a,wr,rfl,h1,h2⟩|⟨r,wr,s,rfl,h1,h2⟩|rfl
 ·refine⟨fun x hx hS=> ?_,by simp,by simp,by rw[ofEvent_cell0];exact h1⟩
  rw[ofEvent_cell0] at hx
  simp only[MemAct.touch?,Option.some.injEq] at hx
  subst hx
  obtain⟨a',n,e1,e2,e3⟩:=D.still _ hS
  cases e1
  have:=h2 n e2
  omega
 ·refine⟨fun x hx hS=> ?_,by simp,by simp, ?_⟩
  ·obtain⟨a',n,e1,_⟩:=D.still _ hS
   exfalso
   cases wr<;>cases s<;>simp[MemAct.ofEvent,MemAct.touch?] at hx<;>(subst hx;cases e1)
  ·cases wr<;>cases s<;>simp[MemAct.ofEvent,MemAct.low,Loc.low,h1]
 ·exact⟨fun x hx _=>by simp[MemAct.ofEvent,MemAct.touch?] at hx,by simp,by simp,by simp[MemAct.ofEvent,MemAct.low]⟩
theorem sits_mono {main:Bool} {B B':Nat} (hB:B≤B') {s:Seat} {n:Nat} {g:Goroutine} (hs:Sits P main K Still B s n g):Sits P main K Still B' s n g:=by
 have hev:∀e,EvC Still B e→EvC Still B' e:=fun e ⟨a,h1,h2,h3⟩=>⟨a,h1,h2,by omega⟩
 have hat:∀g g₂,AtIn P main K Still B s g g₂→AtIn P main K Still B' s g g₂:=fun g g₂ ⟨h1,h2,h3,h4,h5,es,h6,h7⟩=>⟨h1,h2,h3,h4,h5,es,fun e he=>hev e (h6 e he),h7⟩
 have hgo:∀(k:Nat) (g:Goroutine) (w:World),Goes P main (RK K) (DS Still B) (fun g _=> ∃g₂,AtIn P main K Still B s g g₂) k g w→Goes P main (RK K) (DS Still B') (fun g _=> ∃g₂,AtIn P main K Still B' s g g₂) k g w:=by
  intro k
  induction k with
  |zero=>intro g w hg w₁ h₁;obtain⟨g₂,h2⟩:=hg w₁ h₁;exact⟨g₂,hat _ _ h2⟩
  |succ k ih=>
   intro g w hg
   rcases hg with hstop|⟨hr,hst⟩
   ·exact .inl fun w₁ h₁=>let⟨g₂,h2⟩:=hstop w₁ h₁;⟨g₂,hat _ _ h2⟩
   ·refine .inr ⟨hr,fun w₁ h₁=> ?_⟩
    have:=hst w₁ h₁
    cases hgo:stepG P main g w₁ with
    |go g' w' es=>
     rw[hgo,goes_go] at this
     rw[goes_go]
     exact⟨⟨this.1.1,fun e he=>hev e (this.1.2 e he)⟩,ih _ _ this.2⟩
    |_=>rw[hgo] at this;exact this.elim
 rcases hs with⟨k,w,e,hg⟩|⟨e,g₀,g₂,h1,h2⟩
 ·exact .inl ⟨k,w,e,hgo k g w hg⟩
 ·exact .inr ⟨e,g₀,g₂,h1,hat _ _ h2⟩
theorem fine_ofEvents {Still:Loc→Prop} {i:Nat} {fn:FuncId} {pos:String} {es:Array Event} (h:∀e∈es,∀x,(MemAct.ofEvent e).touch?=some x→(∃a,x.loc=.cell a∧∀n,H a.block=some n→a.off<n)∨(∃r,x.loc=.obj r)∨Still x.loc):
 ∀op∈MemOp.ofEvents i fn pos es,Fine H Still op:=by
 intro op hop x hx
 obtain⟨e,he,rfl⟩:=Go.Conc.mem_ofEvents hop
 exact h e he x hx
theorem EvOk.fine {Still:Loc→Prop} {B:Nat} {e:Event} (he:EvOk H B e):∀x,(MemAct.ofEvent e).touch?=some x→(∃a,x.loc=.cell a∧∀n,H a.block=some n→a.off<n)∨(∃r,x.loc=.obj r)∨Still x.loc:=by
 intro x hx
 rcases he with⟨a,wr,rfl,h1,h2⟩|⟨r,wr,s,rfl,h1,h2⟩|rfl
 ·rw[ofEvent_cell0] at hx
  simp only[MemAct.touch?,Option.some.injEq] at hx
  subst hx
  exact .inl ⟨a,rfl,h2⟩
 ·right;left
  cases wr<;>cases s<;>simp[MemAct.ofEvent,MemAct.touch?] at hx<;>(subst hx;exact⟨r,rfl⟩)
 ·simp[MemAct.ofEvent,MemAct.touch?] at hx
theorem EvC.fine {Still:Loc→Prop} {B:Nat} {e:Event} (he:EvC Still B e):∀x,(MemAct.ofEvent e).touch?=some x→(∃a,x.loc=.cell a∧∀n,H a.block=some n→a.off<n)∨(∃r,x.loc=.obj r)∨Still x.loc:=by
 intro x hx
 obtain⟨a,rfl,hS,_⟩:=he
 rw[ofEvent_cell0] at hx
 simp only[MemAct.touch?,Option.some.injEq] at hx
 subst hx
 exact .inr (.inr hS)
theorem EvC.hd {Still:Loc→Prop} {B:Nat} {e:Event} (he:EvC Still B e):EvHd Still B e:=by
 obtain⟨a,rfl,_,h2⟩:=he
 refine⟨fun x hx _=> ?_,by simp,by simp,by rw[ofEvent_cell0];exact h2⟩
 rw[ofEvent_cell0] at hx
 simp only[MemAct.touch?,Option.some.injEq] at hx
 subst hx
 rfl
def RunsBy (P:Program) (N:Nat) (m m':Machine) (U:Trace):Prop:=∀T,runNT P N m T=(.next m',T++U)
theorem RunsBy.refl (m:Machine):RunsBy P 0 m m #[]:=fun T=>by simp[runNT]
theorem RunsBy.head {N:Nat} {m m₁ m':Machine} {ops U:Trace} (h:stepT P m=(.next m₁,ops)) (k:RunsBy P N m₁ m' U):RunsBy P (N+1) m m' (ops++U):=fun T=>by
 simp only[runNT,h]
 rw[k,Array.append_assoc]
theorem RunsBy.trans {N N':Nat} {m m₁ m':Machine} {U U':Trace} (h:RunsBy P N m m₁ U) (k:RunsBy P N' m₁ m' U'):RunsBy P (N+N') m m' (U++U'):=fun T=>by
 rw[←Array.append_assoc]
 exact Go.Conc.runNT_then (h T) (k (T++U))
structure Fx where
 H:Nat→Option Nat
 K:World→Prop
 Still:Loc→Prop
 Mem:Nat→Prop
 Lo:Nat→Prop
 Inb:Nat→Option Seat
 I:World→Prop
 Ex:Nat→(Nat→Prop)→Trace→Array Goroutine→World→(Nat→Nat)→Prop
 n:Nat
abbrev Core (P:Program) (X:Fx) (h B:Nat) (A:Nat→Prop) (T0:Trace) (gs:Array Goroutine) (w:World) (q:Nat→Nat):Prop:=
 TokCore P X.K X.Still B (fun t=>Knows t h) X.Mem X.Lo X.Inb (fun i=>i=h∨A i) (fun _=>False) T0 gs w q
structure CompA (P:Program) (X:Fx) (h B:Nat) (A:Nat→Prop) (T0:Trace) (gs:Array Goroutine) (w:World) (q:Nat→Nat):Prop where
 core:Core P X h B A T0 gs w q
 ex:X.Ex B A T0 gs w q
 noh:¬A h
 run:∀i g,A i→gs[i]?=some g→g.status=.running
 inv:X.I w
def Comp (P:Program) (X:Fx) (h B:Nat) (T0:Trace) (gs:Array Goroutine) (w:World) (q:Nat→Nat):Prop:=∃A,CompA P X h B A T0 gs w q
structure Seen (H:Nat→Option Nat) (w w':World):Prop where
 heap:vis H w'.heap=vis H w.heap
 os:w'.os=w.os
 output:w'.output=w.output
 tape:w'.tape=w.tape
 kinds:∀v,Vis H w v→Vis H w' v
 odd:∀(r:Nat) (o:Obj),w.heap[r]?=some o→plainO o=false→w'.heap[r]?=some o
theorem Seen.at (w:World) (d:Nat):Seen H w (w.at d):=⟨rfl,rfl,rfl,rfl,fun _ h=>⟨h.heap,h.os,h.output,h.kinds⟩,fun _ _ h _=>h⟩
theorem Seen.refl (w:World):Seen H w w:=⟨rfl,rfl,rfl,rfl,fun _ h=>h,fun _ _ h _=>h⟩
theorem Seen.trans {a b c:World} (h:Seen H a b) (k:Seen H b c):Seen H a c:=⟨k.heap.trans h.heap,k.os.trans h.os,k.output.trans h.output,k.tape.trans h.tape,fun v hv=>k.kinds v (h.kinds v hv),fun r o e p=>k.odd r o (h.odd r o e p) p⟩
theorem Seen.size {w w':World} (h:Seen H w w'):w'.heap.size=w.heap.size:=by
 have:=congrArg Array.size h.heap
 rwa[vis_size,vis_size] at this
def DoStep (P:Program) (X:Fx) (h B:Nat) (T T0:Trace) (gs:Array Goroutine) (w:World) (q:Nat→Nat) (sl:Option (Nat×Nat)) (i:Nat):Prop:=
 ∃(gs':Array Goroutine) (w':World) (U U0:Trace) (q':Nat→Nat) (A':Nat→Prop),runT P (crowd gs w sl) i=(.next (crowd gs' w' sl),U)∧Tr X.H (T++U) (T0++U0)∧gs'.size=gs.size∧gs'[h]?=gs[h]?∧
  CompA P X h B A' (T0++U0) gs' w' q'∧sumTo gs.size q'<sumTo gs.size q∧Seen X.H w w'
structure Fx.Ok (P:Program) (X:Fx) (h:Nat):Prop where
 hides:Hides X.H X.K X.Still X.Inb
 keepI:∀w w',Hs X.H w w'→X.I w→X.I w'
 wg:∀l,X.Still l→¬wgc X.H l
 exMono:∀B B' A T gs w q,B≤B'→X.Ex B A T gs w q→X.Ex B' A T gs w q
 exHs:∀B A T gs w w' q,Hs X.H w w'→X.Ex B A T gs w q→X.Ex B A T gs w' q
 exBy:∀B A T gs w q gs' q' i U,X.Ex B A T gs w q→¬A i→(∀x,A x→gs'[x]?=gs[x]?)→(∀x,x≠i→q' x=q x)→(∀op∈U,op.g=i)→((∀op∈U,op.act.touch?=none)∨i=h∨X.Inb i≠none)→
  (∀op∈U,∀x,op.act.touch?=some x→X.Still x.loc→x.write=false)→(i=h→Deaf (T++U) h=Deaf T h)→(∀op∈U,∀a,op.act≠.mark (.release a))→X.Ex B A (T++U) gs' w q'
 exStep:∀B A T T0 gs w q sl i g,CompA P X h B A T0 gs w q→A i→gs[i]?=some g→Tr X.H T T0→(∀gh,gs[h]?=some gh→gh.status=.running)→DoStep P X h B T T0 gs w q sl i
variable {X:Fx} {h:Nat} {A:Nat→Prop} {B:Nat} {T T0:Trace} {gs:Array Goroutine} {w:World} {q:Nat→Nat} {sl:Option (Nat×Nat)}
theorem core_mono {B':Nat} (C:Core P X h B A T0 gs w q) (hB:B≤B'):Core P X h B' A T0 gs w q:=
 ⟨fun i g hi hg=>by
  have:=C.idle i g hi hg
  cases e:X.Inb i with
  |none=>rw[e] at this;exact this
  |some s=>rw[e] at this;exact sits_mono hB this,C.chans,C.wf,C.live,C.inj,C.above,fun i s e=>⟨(C.mem i s e).1,fun c hc=>Nat.lt_of_lt_of_le ((C.mem i s e).2 c hc) hB⟩,C.nomem,C.lo,C.past.mono hB,C.keep⟩
theorem not_release_mute {e:Event} (h:e.mute=true) (a:Addr):MemAct.ofEvent e≠.mark (.release a):=by
 obtain⟨loc,wr,sy⟩:=e
 cases loc<;>simp_all [Event.mute]
 rename_i m
 cases m<;>simp_all [MemAct.ofEvent]
theorem EvOk.not_release {H:Nat→Option Nat} {B:Nat} {e:Event} (h:EvOk H B e) (a:Addr):MemAct.ofEvent e≠.mark (.release a):=by
 rcases h with⟨b,wr,rfl,_⟩|⟨r,wr,s,rfl,_⟩|rfl
 ·rw[ofEvent_cell0];simp
 ·cases wr<;>cases s<;>simp[MemAct.ofEvent]
 ·simp[MemAct.ofEvent]
theorem by_ops {i:Nat} {g:Goroutine} (C:Core P X h B A T0 gs w q) (hi:gs[i]?=some g) (hsp:¬(i=h∨A i)) (hrun:g.status=.running)
 (hsO:∀s g₂,X.Inb i=some s→AtIn P (i==0) X.K X.Still B s g g₂→∀x gx c,(x=h∨A x)→gs[x]?=some gx→s.has c→offersAt gx c true=[]):
 ∀op∈(runT P (crowd gs w sl) i).2,op.g=i∧(∀a,op.act≠.mark (.release a))∧∀x,op.act.touch?=some x→X.Still x.loc∧X.Inb i≠none∧x.write=false:=by
 have hid:=C.idle i g hsp hi
 have hev:∀es:Array Event,X.Inb i≠none→(∀e∈es,EvC X.Still B e)→∀op∈MemOp.ofEvents i g.frame.fn g.frame.place es,op.g=i∧(∀a,op.act≠.mark (.release a))∧∀x,op.act.touch?=some x→X.Still x.loc∧X.Inb i≠none∧x.write=false:=by
  intro es hn hes op hop
  obtain⟨e,he,rfl⟩:=Go.Conc.mem_ofEvents hop
  obtain⟨a,rfl,hS,_⟩:=hes e he
  refine⟨rfl,fun b=>by simp[ofEvent_cell0],fun x hx=> ?_⟩
  simp only[ofEvent_cell0,MemAct.touch?,Option.some.injEq] at hx
  subst hx
  exact⟨hS,hn,rfl⟩
 cases e:X.Inb i with
 |none=>
  rw[e] at hid
  obtain⟨hpos,hq⟩:=hid
  cases hqn:q i with
  |zero=>rw[hqn] at hq;rw[hq.1] at hrun;cases hrun
  |succ n=>
   rw[hqn] at hq
   rcases hq with hf|⟨_,g',es,hm,hst,_⟩
   ·rw[hf.1] at hrun;cases hrun
   ·have h0:(i==0)=false:=by simp;omega
    rw[runT_crowd_go (sl:=sl) hi (by rw[h0];exact hst w)]
    intro op hop
    obtain⟨ev,he,rfl⟩:=Go.Conc.mem_ofEvents hop
    exact⟨rfl,not_release_mute (hm ev he),fun x hx=>by rw[touch_mute (hm ev he)] at hx;cases hx⟩
 |some s=>
  rw[e] at hid
  have hn:X.Inb i≠none:=by rw[e];simp
  have hat:(∃g₂,AtIn P (i==0) X.K X.Still B s g g₂)→∀op∈(runT P (crowd gs w sl) i).2,op.g=i∧(∀a,op.act≠.mark (.release a))∧∀x,op.act.touch?=some x→X.Still x.loc∧X.Inb i≠none∧x.write=false:=by
   rintro⟨g₂,hatI⟩
   obtain⟨_,_,_,_,_,es,hes,hst⟩:=id hatI
   have hw:∀cc∈s.cases,NoWays w (gs.setIfInBounds i ph) cc:=by
    intro cc hcc
    obtain⟨c,z,rfl⟩:=(C.wf i s e).recvs cc hcc
    obtain⟨cap,kk,hc⟩:=C.chans i s c id e (Seat.has_of_mem hcc)
    refine ways_recv_none hc (partners_nil fun x y hy=> ?_)
    rcases getElem?_stand gs i x y hy with⟨_,rfl⟩|⟨hx,hy'⟩
    ·exact offersAt_ph _ _
    ·by_cases hS:x=h∨A x
     ·exact hsO s g₂ e hatI x y c hS hy' (Seat.has_of_mem hcc)
     ·exact C.noSend hS hy' _
   rw[crowd_waits (sl:=sl) hi (hst w C.keep) hw]
   exact hev es hn hes
  rw[←e]
  rcases hid with⟨n,w₀,hqn,hg⟩|⟨_,g₀,g₂,rfl,_⟩
  ·cases n with
   |zero=>exact hat (hg w C.keep)
   |succ n=>
    rcases hg with hstop|⟨_,hst⟩
    ·exact hat (hstop w C.keep)
    ·have:=hst w C.keep
     cases hs:stepG P (i==0) g w with
     |go g' w' es=>
      rw[hs,goes_go] at this
      rw[runT_crowd_go (sl:=sl) hi hs]
      exact hev es hn this.1.2
     |_=>rw[hs] at this;exact this.elim
  ·cases hrun
theorem hs_at (w:World) (d:Nat):Hs H w (w.at d):=fun _ _ _=>SameFrom.refl _ _
theorem CompA.at (hX:X.Ok P h) (C:CompA P X h B A T0 gs w q) (d:Nat):CompA P X h B A T0 gs (w.at d) q:=
 ⟨TokCore.at hX.hides.at_ C.core d,hX.exHs _ _ _ _ _ _ _ (hs_at w d) C.ex,C.noh,C.run,hX.keepI _ _ (hs_at w d) C.inv⟩
theorem CompA.awake {g:Goroutine} (C:CompA P X h B A T0 gs w q) (hg:gs[h]?=some g) (hrun:g.status=.running∨g.status=.blocked):∀g∈gs,awake g:=by
 intro g' hg'
 obtain⟨i,hi,rfl⟩:=Array.mem_iff_getElem.1 hg'
 by_cases e:i=h
 ·subst e
  have:gs[i]=g:=by simpa[Array.getElem?_eq_getElem hi] using hg
  rw[this];exact awake_of (hrun.elim .inl fun x=> .inr (.inl x))
 ·by_cases ea:A i
  ·exact awake_of (.inl (C.run i _ ea (Array.getElem?_eq_getElem hi)))
  ·have hid:=C.core.idle i _ (fun x=>x.elim e ea) (Array.getElem?_eq_getElem hi)
   cases es:X.Inb i with
   |none=>rw[es] at hid;exact awake_of (hid.2.status.elim .inl fun x=> .inr (.inr x))
   |some s=>rw[es] at hid;exact awake_of ((Sits.status C.core.keep hid).elim (fun x=> .inl x.1) fun x=> .inr (.inl x.1))
theorem other_step (hX:X.Ok P h) {g:Goroutine} (hg:gs[h]?=some g) (hrun:g.status=.running) (hT:Tr X.H T T0) (C:CompA P X h B A T0 gs w q) {i:Nat} {gi:Goroutine} (hi:gs[i]?=some gi) (hgr:gi.status=.running) (e:i≠h):
 DoStep P X h B T T0 gs w q sl i:=by
 by_cases ea:A i
 ·exact hX.exStep B A T T0 gs w q sl i gi C ea hi hT fun gh e=>by rw[hg] at e;obtain rfl:=Option.some.inj e;exact hrun
 ·have hsp:¬(i=h∨A i):=fun x=>x.elim e ea
  have hsA:∀x gx,(x=h∨A x)→gs[x]?=some gx→gx.status=.running:=by
   rintro x gx (rfl|hx) hgx
   ·rw[hg] at hgx;obtain rfl:=Option.some.inj hgx;exact hrun
   ·exact C.run x gx hx hgx
  have hops:=by_ops (sl:=sl) C.core hi hsp hgr fun s g₂ _ _ x gx c hx hgx _=>offersAt_of_not_blocked (by rw[hsA x gx hx hgx];simp) _ _
  obtain⟨gs',ops,q',hrt,hsz',hsp',hq',_,C',hlt⟩:=TokCore.by_step (sl:=sl) (fun t u i=>Knows.app u) C.core hi hsp hgr
   (fun x gx hx hgx=>again_of_running (.inl (hsA x gx hx hgx)) _) (fun hD=>hD.elim)
   (fun s g₂ _ _=>⟨fun hD=>hD,fun x gx c hx hgx _=>offersAt_of_not_blocked (by rw[hsA x gx hx hgx];simp) _ _⟩)
  rw[hrt] at hops
  refine⟨gs',w,ops,ops,q',A,hrt,hT.plain fun op hop x hx=>hX.wg _ ((hops op hop).2.2 x hx).1,hsz',hsp' h (.inl rfl),⟨C', ?_,C.noh,fun j gj hj hgj=> ?_,C.inv⟩,hlt,.refl _⟩
  ·refine hX.exBy B A T0 gs w q gs' q' i ops C.ex ea (fun x hx=>hsp' x (.inr hx)) hq' (fun op hop=>(hops op hop).1) ?_ (fun op hop x hx _=>((hops op hop).2.2 x hx).2.2) (fun e'=>absurd e' e) (fun op hop=>(hops op hop).2.1)
   by_cases en:X.Inb i=none
   ·refine .inl fun op hop=> ?_
    cases et:op.act.touch? with
    |none=>rfl
    |some x=>exact absurd en ((hops op hop).2.2 x et).2.1
   ·exact .inr (.inr en)
  ·rw[hsp' j (.inr hj)] at hgj
   exact C.run j gj hj hgj
theorem others (hX:X.Ok P h) {g:Goroutine} (hg:gs[h]?=some g) (hrun:g.status=.running) (hT:Tr X.H T T0) (C:Comp P X h B T0 gs w q):
 ∃(N:Nat) (gs':Array Goroutine) (w₁ w':World) (sl₁ sl':Option (Nat×Nat)) (U U0:Trace) (q':Nat→Nat),RunsBy P N (crowd gs w sl) (crowd gs' w₁ sl₁) U∧stepT P (crowd gs' w₁ sl₁)=runT P (crowd gs' w' sl') h∧gs'.size=gs.size∧gs'[h]?=some g∧
  Tr X.H (T++U) (T0++U0)∧Comp P X h B (T0++U0) gs' w' q'∧Seen X.H w w':=by
 have key:∀μ (gs₁:Array Goroutine) (w₁:World) (sl₁:Option (Nat×Nat)) (T₁ T₂:Trace) (q₁:Nat→Nat),sumTo gs₁.size q₁=μ→Comp P X h B T₂ gs₁ w₁ q₁→gs₁[h]?=some g→Tr X.H T₁ T₂→
  ∃(N:Nat) (gs':Array Goroutine) (w₂ w':World) (sl₂ sl':Option (Nat×Nat)) (U U0:Trace) (q':Nat→Nat),RunsBy P N (crowd gs₁ w₁ sl₁) (crowd gs' w₂ sl₂) U∧stepT P (crowd gs' w₂ sl₂)=runT P (crowd gs' w' sl') h∧gs'.size=gs₁.size∧gs'[h]?=some g∧
   Tr X.H (T₁++U) (T₂++U0)∧Comp P X h B (T₂++U0) gs' w' q'∧Seen X.H w₁ w':=by
  intro μ
  induction μ using Nat.strongRecOn with
  |_ μ ihμ=>
   intro gs₁ w₁ sl₁ T₁ T₂ q₁ hμ C₁ hg₁ hT₁
   obtain⟨A,C₁⟩:=C₁
   obtain⟨i,gi,d,sl',hi,hgr,hpick⟩:=crowd_pick (P:=P) (w:=w₁) (sl:=sl₁) (C₁.awake hg₁ (.inl hrun)) ⟨h,_,hg₁,hrun⟩
   have Cd:=C₁.at hX d
   by_cases e:i=h
   ·subst e
    exact⟨0,gs₁,w₁,w₁.at d,sl₁,sl',#[],#[],q₁,.refl _,hpick,rfl,hg₁,by simpa using hT₁,by simpa using⟨A,Cd⟩,.at _ _⟩
   ·obtain⟨gs',w',U,U0,q',A',h1,h2,h3,h4,h5,h6,h7⟩:=other_step (sl:=sl') hX hg₁ hrun hT₁ Cd hi hgr e
    obtain⟨N,gs2,w2,w3,sl2,sl3,U2,U3,q2,k1,k2,k3,k4,k5,k6,k7⟩:=ihμ (sumTo gs'.size q') (by rw[h3];omega) gs' w' sl' (T₁++U) (T₂++U0) q' rfl ⟨A',h5⟩ (by rw[h4];exact hg₁) h2
    exact⟨N+1,gs2,w2,w3,sl2,sl3,U++U2,U0++U3,q2,k1.head (hpick.trans h1),k2,k3.trans h3,k4,by rw[←Array.append_assoc,←Array.append_assoc];exact k5,by rw[←Array.append_assoc];exact k6,((Seen.at _ _).trans h7).trans k7⟩
 exact key _ gs w sl T T0 q rfl C hg hT
theorem CompA.own (hX:X.Ok P h) (C:CompA P X h B A T0 gs w q) {g g':Goroutine} {w':World} {es:Array Event} (hg:gs[h]?=some g) {B':Nat} (hev:∀e∈es,EvOk X.H B' e∨EvC X.Still B' e) (hhs:Hs X.H w w') (hB:B≤B'):
 CompA P X h B' A (T0++MemOp.ofEvents h g.frame.fn g.frame.place es) ((gs.map (woken P g g' w')).setIfInBounds h g') w' q∧((gs.map (woken P g g' w')).setIfInBounds h g')[h]?=some g':=by
 have hlt:h<gs.size:=(Array.getElem?_eq_some_iff.1 hg).1
 have hev':∀e∈es,EvHd X.Still B' e:=fun e he=>(hev e he).elim (fun h=>h.hd hX.hides) (fun h=>EvC.hd h)
 obtain⟨hops,hs,hl,hdf⟩:=evHd_ops (i:=h) (fn:=g.frame.fn) (pos:=g.frame.place) hev'
 have Cm:=core_mono C.core hB
 have hch:∀i s c,X.Inb i=some s→s.has c→∃cap k,w'.heap[c]?=some (.chan cap #[] false k k false):=by
  intro i s c hi hc
  obtain⟨cap,k,hk⟩:=C.core.chans i s c id hi hc
  obtain⟨n,hn⟩:=hX.hides.chan i s c hi hc
  have:=hhs c n hn
  rw[hk] at this
  exact⟨cap,k,this.other (by simp)⟩
 have C':Core P X h B' A T0 gs w' q:=⟨Cm.idle,fun i s c _ e hc=>hch i s c e hc,Cm.wf,Cm.live,Cm.inj,Cm.above,Cm.mem,Cm.nomem,Cm.lo,Cm.past,hX.hides.keep _ _ hhs Cm.keep⟩
 have hfix:∀x y,x≠h→gs[x]?=some y→woken P g g' w' y=y:=fun x y hx hy=>woken_of_again (by
  by_cases ea:A x
  ·exact again_of_running (.inl (C.run x y ea hy)) _
  ·exact C'.fixed (fun z=>z.elim hx ea) hy)
 have hget:∀x y,x≠h→((gs.map (woken P g g' w')).setIfInBounds h g')[x]?=some y→gs[x]?=some y:=by
  intro x y hx hy
  rw[Array.getElem?_setIfInBounds_ne (fun e=>hx e.symm),Array.getElem?_map] at hy
  obtain⟨y₀,hy₀,rfl⟩:=Option.map_eq_some_iff.1 hy
  rw[hfix x y₀ hx hy₀]
  exact hy₀
 have hget':∀x,x≠h→((gs.map (woken P g g' w')).setIfInBounds h g')[x]?=gs[x]?:=by
  intro x hx
  rw[Array.getElem?_setIfInBounds_ne (fun e=>hx e.symm),Array.getElem?_map]
  cases e:gs[x]? with
  |none=>rfl
  |some y=>simp[hfix x y hx e]
 refine⟨⟨⟨fun x y hx hy=> ?_,C'.chans,C'.wf,fun _ _ hx=>hx.elim,C'.inj,fun j hj=> ?_,C'.mem,C'.nomem,C'.lo,PastH.appH C'.past hops hs (hdf T0) hl,C'.keep⟩, ?_,C.noh,fun i gi hi hgi=> ?_,hX.keepI _ _ hhs C.inv⟩,Array.getElem?_setIfInBounds_self_of_lt (by simpa using hlt)⟩
 ·have hxh:x≠h:=fun e=>hx (.inl e)
  have hi:=C'.idle x y hx (hget x y hxh hy)
  cases es':X.Inb x with
  |none=>rw[es'] at hi;exact⟨hi.1,by rw[Deaf_other T0 (fun z=>hxh z.symm) _ hops];exact hi.2⟩
  |some s=>rw[es'] at hi;exact hi
 ·simp only[Array.size_setIfInBounds,Array.size_map] at hj
  rw[Deaf_other T0 (g':=h) (by omega) _ hops]
  exact C.core.above j hj
 ·exact hX.exBy B' A T0 gs w' q _ q h _ (hX.exMono _ _ _ _ _ _ _ hB (hX.exHs _ _ _ _ _ _ _ hhs C.ex)) C.noh (fun x hx=>hget' x fun e=>C.noh (e▸hx)) (fun _ _=>rfl) hops (.inr (.inl rfl)) hs (fun _=>hdf T0) (fun op hop a=>by obtain⟨e,he,rfl⟩:=Go.Conc.mem_ofEvents hop;exact(hev e he).elim (fun h=>h.not_release a) (fun⟨b,e,_⟩=>by subst e;simp[ofEvent_cell0]))
 ·exact C.run i gi hi (hget i gi (fun e=>C.noh (e▸hi)) hgi)
end
end Co
end Go.Proofs.Ytlngbdggehghgaa

namespace Go.Proofs.Ytlngbdggehghgaa
set_option linter.unusedSimpArgs false
set_option linter.unusedVariables false
namespace Co
open Go.Conc
open Go.ConcN (sumTo upd sumTo_upd upd_ne upd_same)
structure OldOk (O:Array Obj) (H:Nat→Option Nat) (w:World):Prop where
 size:O.size≤w.heap.size
 plain:∀(r:Nat) (o:Obj),O[r]?=some o→plainO o=true→H r=none
 odd:∀(r:Nat) (o:Obj),O[r]?=some o→plainO o=false→H r=some 0∧w.heap[r]?=some o
theorem OldOk.seen {O:Array Obj} {H:Nat→Option Nat} {w w':World} (h:OldOk O H w) (s:Seen H w w'):OldOk O H w':=
 ⟨by rw[s.size];exact h.size,h.plain,fun r o e p=>⟨(h.odd r o e p).1,s.odd r o (h.odd r o e p).2 p⟩⟩
theorem OldOk.hs {O:Array Obj} {H:Nat→Option Nat} {w w':World} (h:OldOk O H w) (hz:w.heap.size≤w'.heap.size) (s:Hs H w w'):OldOk O H w':=
 ⟨Nat.le_trans h.size hz,h.plain,fun r o e p=>⟨(h.odd r o e p).1,by
  obtain⟨h1,h2⟩:=h.odd r o e p
  have h3:=s r 0 h1
  rw[h2] at h3
  exact h3.other fun c t f e'=>by cases e';cases p⟩⟩
structure In (O:Array Obj) (P:Program) (X:Fx) (h:Nat) (T0:Trace) (gs:Array Goroutine) (w:World) (q:Nat→Nat) (v:World):Prop where
 comp:Comp P X h w.heap.size T0 gs w q
 n:gs.size=X.n
 vis:Vis X.H w v
 nv:nview v.heap
 size:∀r n,X.H r=some n→r<v.heap.size
 old:OldOk O X.H w
structure Goal where
 E:Machine→Trace→Prop
 old:Array Obj
structure Goal.Ok (P:Program) (Z:Goal):Prop where
 back:∀N m m' U T,RunsBy P N m m' U→Z.E m' (T++U)→Z.E m T
def Co (P:Program) (Z:Goal) (h:Nat) (X:Fx) (g:Goroutine) (v:World):Prop:=
 ∀(T T0:Trace) (gs:Array Goroutine) (w:World) (sl:Option (Nat×Nat)) (q:Nat→Nat),Tr X.H T T0→In Z.old P X h T0 gs w q v→gs[h]?=some g→Z.E (crowd gs w sl) T
section
variable {O:Array Obj} {P:Program} {L:Nat→Bool} {M:String→Bool} {Z:Goal} {h:Nat} {X:Fx} {b:Frame}
theorem Same.trans {u v w:World} (a:Same u v) (b:Same v w):Same u w:=⟨a.heap.trans b.heap,a.os.trans b.os,a.output.trans b.output⟩
theorem Same.symm {u v:World} (a:Same u v):Same v u:=⟨a.heap.symm,a.os.symm,a.output.symm⟩
theorem Same.refl (u:World):Same u u:=⟨rfl,rfl,rfl⟩
theorem Vis.same_to {H:Nat→Option Nat} {w u v:World} (h:Vis H w v) (s:Same u v):Vis H w u:=⟨s.heap.trans h.heap,s.os.trans h.os,s.output.trans h.output,h.kinds⟩
theorem Vis.uniq {H:Nat→Option Nat} {w u v:World} (h:Vis H w v) (s:Vis H w u):Same u v:=⟨s.heap.trans h.heap.symm,s.os.trans h.os.symm,s.output.trans h.output.symm⟩
theorem In.same {T0:Trace} {gs:Array Goroutine} {w:World} {q:Nat→Nat} {u v:World} (hi:In O P X h T0 gs w q v) (hs:Same u v):In O P X h T0 gs w q u:=
 ⟨hi.comp,hi.n,hi.vis.same_to hs,by rw[hs.heap];exact hi.nv,fun r n e=>by rw[hs.heap];exact hi.size r n e,hi.old⟩
theorem co_same {g:Goroutine} {u v:World} (hs:Same u v) (hc:Co P Z h X g v):Co P Z h X g u:=
 fun T T0 gs w sl q ht hi hg=>hc T T0 gs w sl q ht (hi.same hs.symm) hg
theorem one_step (hX:X.Ok P h) {g:Goroutine} {v:World} (hrun:g.status=.running) {T T0:Trace} {gs:Array Goroutine} {w:World} {sl:Option (Nat×Nat)} {q:Nat→Nat} (ht:Tr X.H T T0) (hi:In O P X h T0 gs w q v) (hg:gs[h]?=some g):
 ∃(N:Nat) (gs₁:Array Goroutine) (w₀ w₁:World) (sl₀ sl₁:Option (Nat×Nat)) (U U0:Trace) (q₁:Nat→Nat),RunsBy P N (crowd gs w sl) (crowd gs₁ w₀ sl₀) U∧stepT P (crowd gs₁ w₀ sl₀)=runT P (crowd gs₁ w₁ sl₁) h∧gs₁[h]?=some g∧
  Tr X.H (T++U) (T0++U0)∧In O P X h (T0++U0) gs₁ w₁ q₁ v∧w₁.tape=w.tape:=by
 obtain⟨N,gs₁,w₀,w₁,sl₀,sl₁,U,U0,q₁,h1,h2,h3,h4,h5,h6,h7⟩:=others (sl:=sl) hX hg hrun ht hi.comp
 exact⟨N,gs₁,w₀,w₁,sl₀,sl₁,U,U0,q₁,h1,h2,h4,h5,⟨by rw[h7.size];exact h6,h3.trans hi.n,h7.kinds v hi.vis,hi.nv,hi.size,hi.old.seen h7⟩,h7.tape⟩
theorem In.own (hX:X.Ok P h) {g g':Goroutine} {v v':World} {T T0:Trace} {gs:Array Goroutine} {w w':World} {sl:Option (Nat×Nat)} {q:Nat→Nat} {es:Array Event} (ht:Tr X.H T T0) (hi:In O P X h T0 gs w q v) (hg:gs[h]?=some g)
 (hst:stepG P (h==0) g w=.go g' w' es) (hev:∀e∈es,EvOk X.H w'.heap.size e∨EvC X.Still w'.heap.size e) (hhs:Hs X.H w w') (hz:v.heap.size≤v'.heap.size) (hv:Vis X.H w' v') (hn:nview v'.heap):
 ∃(gs':Array Goroutine) (U:Trace),runT P (crowd gs w sl) h=(.next (crowd gs' w' sl),U)∧gs'[h]?=some g'∧Tr X.H (T++U) (T0++U)∧In O P X h (T0++U) gs' w' q v':=by
 obtain⟨A,C⟩:=hi.comp
 have hsz:w.heap.size≤w'.heap.size:=by
  rw[←hi.vis.size,←hv.size];exact hz
 obtain⟨C',hg'⟩:=C.own hX (g':=g') hg hev hhs hsz
 exact⟨_,_,runT_crowd_go (sl:=sl) hg hst,hg',ht.fine hX.wg (fine_ofEvents fun e he=>(hev e he).elim (fun h=>h.fine) (fun h=>EvC.fine h)),⟨⟨A,C'⟩,by simp[hi.n],hv,hn,fun r n e=>Nat.lt_of_lt_of_le (hi.size r n e) hz,hi.old.hs hsz hhs⟩⟩
theorem dem_company (hX:X.Ok P h) {Q:Array Value→World→Prop} {ds:List Deferred} {k:List Item} {cs:List Frame} {c:Cfg} {v:World} (hd:Dem P X.H b Q c v):
 ∀{T T0:Trace} {gs:Array Goroutine} {w:World} {sl:Option (Nat×Nat)} {q:Nat→Nat},Tr X.H T T0→In O P X h T0 gs w q v→w.tape=v.tape→gs[h]?=some (c.gor b ds k cs)→
  ∃(N:Nat) (gs':Array Goroutine) (tm:Array Value) (v' w':World) (sl':Option (Nat×Nat)) (U U0:Trace) (q':Nat→Nat),RunsBy P N (crowd gs w sl) (crowd gs' w' sl') U∧Tr X.H (T++U) (T0++U0)∧
   gs'[h]?=some (G (b.at ⟨tm,ds⟩ k) cs)∧Q tm v'∧In O P X h (T0++U0) gs' w' q' v':=by
 induction hd with
 | @done tm v hq=>
  intro T T0 gs w sl q ht hi _ hg
  exact⟨0,gs,tm,v,w,sl,#[],#[],q,.refl _,by simpa using ht,hg,hq,by simpa using hi⟩
 | @step c v c' v' hst hz hta hn hdem ih=>
  intro T T0 gs w sl q ht hi htape hg
  have hrun:(c.gor b ds k cs).status=.running:=by obtain⟨fr,cs',e⟩:=c.split b ds k cs;rw[e];rfl
  obtain⟨N,gs₁,w₀,w₁,sl₀,sl₁,U,U0,q₁,h1,h2,h3,h4,h5,h6⟩:=one_step (sl:=sl) hX hrun ht hi hg
  obtain⟨w',g1,g2,g3,g4⟩:=hst w₁.drawn w₁ h5.vis (h6.trans htape)
  obtain⟨es,g5,g6⟩:=g4 (h==0) ds k cs
  rw[show w₁.at w₁.drawn=w₁ from rfl] at g6
  obtain⟨gs₂,U₂,k1,k2,k3,k4⟩:=h5.own (sl:=sl₁) hX h4 h3 g6 (fun e he=> .inl (g5 e he)) g2 (hz _) g1 (hn _)
  obtain⟨N',gs',tm,v2,w2,sl2,U',U0',q',j1,j2,j3,j4,j5⟩:=ih w₁.drawn (sl:=sl₁) k3 k4 (g3.trans ((h6.trans htape).trans (hta _).symm)) k2
  have e1:T++U++U₂++U'=T++(U++(U₂++U')):=by simp[Array.append_assoc]
  have e2:T0++U0++U₂++U0'=T0++(U0++(U₂++U0')):=by simp[Array.append_assoc]
  rw[e1,e2] at j2
  rw[e2] at j5
  exact⟨N+(N'+1),gs',tm,v2,w2,sl2,U++(U₂++U'),U0++(U₂++U0'),q',h1.trans (RunsBy.head (h2.trans k1) j1),j2,j3,j4,j5⟩
theorem co_piece {ρ:Bool} (hZ:Z.Ok P) (hX:X.Ok P h) (T:Texts P L M) (hk:b.kind≠.early) (hρ:ρ=true→b.kind=.normal) {R:Array Value→World→Prop} {c:Code} {tmps:Array Value} {ds:List Deferred} {k:List Item} {cs:List Frame} {v:World}
 (hc:plainCode P L M c=true) (hcl:closedC ρ [] c=true) (hwp:∀u,Same u v→c.wp P (fun e a w=>e=.normal∧a.defers=[]∧R a.tmps w) ⟨tmps,[]⟩ u)
 (hco:∀tm v',R tm v'→Co P Z h X (G (b.at ⟨tm,ds⟩ k) cs) v'):Co P Z h X (G (b.at ⟨tmps,ds⟩ (.code c::k)) cs) v:=by
 intro T1 T0 gs w sl q ht hi hg
 have hi':In Z.old P X h T0 gs w q {v with tape:=w.tape}:=hi.same ⟨rfl,rfl,rfl⟩
 have hd:=wp_dem (v:={v with tape:=w.tape}) T hk hρ hc hcl hi'.nv hi'.size (fun u hu=>hwp u (hu.trans ⟨rfl,rfl,rfl⟩))
 obtain⟨N,gs',tm,v',w',sl',U,U0,q',h1,h2,h3,⟨v2,h4,h5⟩,h6⟩:=dem_company hX (ds:=ds) (k:=k) (cs:=cs) (sl:=sl) hd ht hi' rfl hg
 exact hZ.back N _ _ U T1 h1 (hco tm v2 h5 _ _ gs' w' sl' q' h2 (h6.same h4) h3)
theorem co_step2 (hZ:Z.Ok P) (hX:X.Ok P h) {g:Goroutine} {v:World} (hrun:g.status=.running)
 (hst:∀w,Vis X.H w v→X.K w→X.I w→
  ∃g' w' v' es,(∀e∈es,EvOk X.H w'.heap.size e∨EvC X.Still w'.heap.size e)∧stepG P (h==0) g w=.go g' w' es∧Hs X.H w w'∧v.heap.size≤v'.heap.size∧Vis X.H w' v'∧nview v'.heap∧Co P Z h X g' v'):Co P Z h X g v:=by
 intro T1 T0 gs w sl q ht hi hg
 obtain⟨N,gs₁,w₀,w₁,sl₀,sl₁,U,U0,q₁,h1,h2,h3,h4,h5,h6⟩:=one_step (sl:=sl) hX hrun ht hi hg
 obtain⟨A,C⟩:=h5.comp
 obtain⟨g',w',v',es,e1,e2,e3,e4,e5,e6,e7⟩:=hst w₁ h5.vis C.core.keep C.inv
 obtain⟨gs₂,U₂,k1,k2,k3,k4⟩:=h5.own (sl:=sl₁) hX h4 h3 e2 e1 e3 e4 e5 e6
 refine hZ.back (N+1) _ _ (U++(U₂++#[])) T1 (h1.trans (RunsBy.head (h2.trans k1) (RunsBy.refl _))) ?_
 have e1:T1++(U++(U₂++#[]))=T1++U++U₂:=by simp[Array.append_assoc]
 rw[e1]
 exact e7 _ _ gs₂ w' sl₁ q₁ k3 k4 k2
theorem co_step (hZ:Z.Ok P) (hX:X.Ok P h) {g:Goroutine} {v:World} (hrun:g.status=.running)
 (hst:∀w,Vis X.H w v→X.K w→X.I w→
  ∃g' w' v' es,(∀e∈es,EvOk X.H w'.heap.size e)∧stepG P (h==0) g w=.go g' w' es∧Hs X.H w w'∧v.heap.size≤v'.heap.size∧Vis X.H w' v'∧nview v'.heap∧Co P Z h X g' v'):Co P Z h X g v:=by
 refine co_step2 hZ hX hrun fun w h1 h2 h3=> ?_
 obtain⟨g',w',v',es,e1,r⟩:=hst w h1 h2 h3
 exact⟨g',w',v',es,fun e he=> .inl (e1 e he),r⟩
theorem co_still (hZ:Z.Ok P) (hX:X.Ok P h) {g g':Goroutine} {v:World} (hrun:g.status=.running) (hg:∀w,∃es,es=#[]∧stepG P (h==0) g w=.go g' w es) (hc:Co P Z h X g' v):Co P Z h X g v:=by
 intro T T0 gs w sl q ht hi hgs
 refine co_step (v:=v) hZ hX hrun (fun w h1 _ _=> ?_) T T0 gs w sl q ht hi hgs
 obtain⟨es,e0,e⟩:=hg w
 exact⟨g',w,v,es,by subst e0;simp,e,Hs.refl _ _,Nat.le_refl _,h1,hi.nv,hc⟩
variable {a:Act} {k:List Item} {cs:List Frame} {v:World}
theorem co_skip (hZ:Z.Ok P) (hX:X.Ok P h) (hc:Co P Z h X (G (b.at a k) cs) v):Co P Z h X (G (b.at a (.code .skip::k)) cs) v:=co_still hZ hX rfl (fun _=>⟨_,rfl,stepG_skip⟩) hc
theorem co_seq (hZ:Z.Ok P) (hX:X.Ok P h) {x y:Code} (hc:Co P Z h X (G (b.at a (.code x:: .code y::k)) cs) v):Co P Z h X (G (b.at a (.code (.seq x y)::k)) cs) v:=co_still hZ hX rfl (fun _=>⟨_,rfl,stepG_seq⟩) hc
theorem co_block (hZ:Z.Ok P) (hX:X.Ok P h) {id:Nat} {x:Code} (hc:Co P Z h X (G (b.at a (.code x:: .inBlock id::k)) cs) v):Co P Z h X (G (b.at a (.code (.block id x)::k)) cs) v:=co_still hZ hX rfl (fun _=>⟨_,rfl,stepG_block⟩) hc
theorem co_inBlock (hZ:Z.Ok P) (hX:X.Ok P h) {id:Nat} (hc:Co P Z h X (G (b.at a k) cs) v):Co P Z h X (G (b.at a (.inBlock id::k)) cs) v:=co_still hZ hX rfl (fun _=>⟨_,rfl,stepG_inBlock⟩) hc
theorem co_loop (hZ:Z.Ok P) (hX:X.Ok P h) {x:Code} (hc:Co P Z h X (G (b.at a (.code x:: .inLoop x::k)) cs) v):Co P Z h X (G (b.at a (.code (.loop x)::k)) cs) v:=co_still hZ hX rfl (fun _=>⟨_,rfl,stepG_loop⟩) hc
theorem co_inLoop (hZ:Z.Ok P) (hX:X.Ok P h) {x:Code} (hc:Co P Z h X (G (b.at a (.code x:: .inLoop x::k)) cs) v):Co P Z h X (G (b.at a (.inLoop x::k)) cs) v:=co_still hZ hX rfl (fun _=>⟨_,rfl,stepG_inLoop⟩) hc
theorem co_cond (hZ:Z.Ok P) (hX:X.Ok P h) {c:Operand} {x y:Code} {t:Bool} (ht:a.eval c=.bool t) (hc:Co P Z h X (G (b.at a (.code (if t then x else y)::k)) cs) v):Co P Z h X (G (b.at a (.code (.cond c x y)::k)) cs) v:=co_still hZ hX rfl (fun _=>⟨_,rfl,stepG_cond ht⟩) hc
theorem co_exit (hZ:Z.Ok P) (hX:X.Ok P h) {id:Nat} {k':List Item} (he:exitTo id k=some k') (hc:Co P Z h X (G (b.at a k') cs) v):Co P Z h X (G (b.at a (.code (.exit id)::k)) cs) v:=co_still hZ hX rfl (fun _=>⟨_,rfl,stepG_exit he⟩) hc
theorem co_region_end (hZ:Z.Ok P) (hX:X.Ok P h) {ops:Array Oper} (hc:Co P Z h X (G (b.at a k) cs) v):Co P Z h X (G (b.at a (.inRegion ops []::k)) cs) v:=co_still hZ hX rfl (fun _=>⟨_,rfl,stepG_region_end⟩) hc
theorem co_ret (hZ:Z.Ok P) (hX:X.Ok P h) (hc:Co P Z h X (G {b.at a (.code .ret::k) with mode:=.returning} cs) v):Co P Z h X (G (b.at a (.code .ret::k)) cs) v:=co_still hZ hX rfl (fun _=>⟨_,rfl,stepG_ret⟩) hc
theorem co_end (hZ:Z.Ok P) (hX:X.Ok P h) (hc:Co P Z h X (G {b.at a [] with mode:=.returning} cs) v):Co P Z h X (G (b.at a []) cs) v:=co_still hZ hX rfl (fun _=>⟨_,rfl,stepG_end⟩) hc
theorem co_region_draw (hZ:Z.Ok P) (hX:X.Ok P h) {id:Nat} {ops:Array Oper} (hc:∀t,Co P Z h X (G (b.at a (.inRegion ops (Region.schedule (P.follows .mixedOrders) ops t)::k)) cs) v):Co P Z h X (G (b.at a (.code (.region id ops true)::k)) cs) v:=by
 intro T T0 gs w sl q ht hi hgs
 refine co_step (v:=v) hZ hX rfl (fun w h1 _ _=> ?_) T T0 gs w sl q ht hi hgs
 exact⟨_,_,v,_,by simp,stepG_region_draw,fun _ _ _=>SameFrom.refl _ _,Nat.le_refl _,⟨h1.heap,h1.os,h1.output,h1.kinds⟩,hi.nv,hc _⟩
theorem co_op (hZ:Z.Ok P) (hX:X.Ok P h) (T:Table P L M) (hk:b.kind≠.early) {R:Value→World→Prop} {tmps:Array Value} {ds:List Deferred} {ops:Array Oper} {i:Nat} {rest:List Nat} {o:Oper} (ho:ops[i]?=some o) (hw:Region.wanted o (yielded ops tmps)=true)
 (hpo:plainOp P L M o.op=true) (hrun:∀u,Same u v→∃x u',(execOp (⟨tmps,[]⟩:Act).eval o).run P u=.ok (.value x) u'∧R x u')
 (hc:∀x u',R x u'→Co P Z h X (G (b.at ((⟨tmps,ds⟩:Act).put o.dst x) (.inRegion ops rest::k)) cs) u'):Co P Z h X (G (b.at ⟨tmps,ds⟩ (.inRegion ops (i::rest)::k)) cs) v:=by
 intro T1 T0 gs w sl q ht hi hgs
 have hi':In Z.old P X h T0 gs w q {v with tape:=w.tape,drawn:=w.drawn}:=hi.same ⟨rfl,rfl,rfl⟩
 refine co_step (v:=v) hZ hX rfl (fun w h1 _ _=> ?_) T1 T0 gs w sl q ht hi hgs
 obtain⟨x,u',e1,e2⟩:=hrun {v with tape:=w.tape,drawn:=w.drawn} ⟨rfl,rfl,rfl⟩
 obtain⟨hS,_⟩:=plain_op (H:=X.H) T o hpo ⟨tmps,[]⟩
 cases hr:(execOp (⟨tmps,[]⟩:Act).eval o).runT P {v with tape:=w.tape,drawn:=w.drawn} #[] with
 |mk res es'=>
  have hr1:(execOp (⟨tmps,[]⟩:Act).eval o).run P {v with tape:=w.tape,drawn:=w.drawn}=res:=by rw[←Sem.runT_fst P _ _ #[],hr]
  rw[e1] at hr1
  subst hr1
  obtain⟨t1,n1,s1,kk,d1,F⟩:=hS.1 X.H {v with tape:=w.tape,drawn:=w.drawn} _ u' #[] es' hi.nv hi.size hr
  obtain⟨w',gs,f1,f2,f3,f4,f5,f6⟩:=F w #[] (h1.same_to ⟨rfl,rfl,rfl⟩) (fun _ _ _=>rfl)
  have hrw:(execOp (⟨tmps,ds⟩:Act).eval o).run P w=.ok (.value x) w':=by
   show(execOp (⟨tmps,[]⟩:Act).eval o).run P w=_
   rw[←Sem.runT_fst P _ w #[],f1]
  refine⟨_,w',u',_,fun e he=> ?_,stepG_value (a:=⟨tmps,ds⟩) ho hw hk hrw,f5,s1,f2,n1,hc x u' e2⟩
  refine f6 e ?_
  have h7:=seen_sub he
  unfold Sem.events at h7
  rw[show(execOp (⟨tmps,ds⟩:Act).eval o).runT P w #[]=_ from f1] at h7
  simpa using h7
def Calls (P:Program) (Z:Goal) (h:Nat) (X:Fx) (f:FuncId) (args:Array Value) (v:World) (Post:Value→Fx→World→Prop):Prop:=
 ∀(c:Frame) (cs:List Frame),(∀x X' v',Post x X' v'→Co P Z h X' (G (c.finish x) cs) v')→Co P Z h X (G (Frame.enter P f args .normal) (c::cs)) v
end
end Co
end Go.Proofs.Ytlngbdggehghgaa

namespace Go.Proofs.Ytlngbdggehghgaa
set_option linter.unusedSimpArgs false
set_option linter.unusedVariables false
namespace Co
open Go.Conc
open Go.ConcN (sumTo upd sumTo_upd upd_ne upd_same)
abbrev KK:Int:=4294967296
def mk (m:Mark):Event:=⟨.mark m,false,true⟩
def c5 (s:Nat):Addr:=⟨s,5,none⟩
def c6 (s:Nat):Addr:=⟨s,6,none⟩
def Wgs (s:Nat) (es:Array Event):Prop:=∀e∈es,∃j wr,(j=5∨j=6)∧e=⟨.cell ⟨s,j,none⟩,wr,true⟩
inductive Tail (P:Program) (s:Nat):Nat→Nat→Goroutine→Prop
 |calm {n st:Nat} {g g':Goroutine}:g.status=.running→(∀w,stepG P false g w=.go g' w #[])→Tail P s n st g'→Tail P s (n+1) st g
 |load {n:Nat} {g g':Goroutine}:g.status=.running→(∀w,w.cell? (c5 s)=some (.int .u64 1)→∃es,Wgs s es∧stepG P false g w=.go g' w es)→Tail P s n 2 g'→Tail P s (n+1) 3 g
 |store {n:Nat} {g g':Goroutine}:g.status=.running→(∀w,w.cell? (c5 s)=some (.int .u64 1)→w.frozen? (c5 s)=false→∃es,Wgs s es∧stepG P false g w=.go g' (w.setCell (c5 s) (.int .u64 0)) es)→Tail P s n 1 g'→Tail P s (n+1) 2 g
 |wake {n:Nat} {g g':Goroutine}:g.status=.running→mayWake P g=true→g'.status=.running→(∀w,w.cell? (c6 s)=some (.int .u32 0)→w.frozen? (c6 s)=false→stepG P false g w=.go g' (w.setCell (c6 s) (.int .u32 1)) (semEvents (c6 s)))→QuitsD P n 1 g'→Tail P s (n+1) 1 g
inductive Way (P:Program) (s:Nat):Nat→Nat→Bool→Goroutine→Prop
 |calm {n d:Nat} {rel:Bool} {g g':Goroutine}:g.status=.running→(∀w x,w.cell? (c5 s)=some x→stepG P false g w=.go g' w #[])→Way P s n d rel g'→Way P s (n+1) d rel g
 |rel {n:Nat} {g g':Goroutine}:g.status=.running→(∀w,stepG P false g w=.go g' w #[mk (.releaseMerge (c5 s))])→Way P s n 0 true g'→Way P s (n+1) 0 false g
 |deaf {n:Nat} {g g':Goroutine}:g.status=.running→(∀w,stepG P false g w=.go g' w #[mk .disable])→Way P s n 1 true g'→Way P s (n+1) 0 true g
 |add {n:Nat} {g:Goroutine}:g.status=.running→(∀(w:World) (k b:Nat),b≤1→k<1000→w.frozen? (c5 s)=false→w.cell? (c5 s)=some (.int .u64 (((k+1:Nat):Int)*KK+(b:Int)))→∃g' es,Wgs s es∧
  stepG P false g w=.go g' (w.setCell (c5 s) (.int .u64 ((k:Int)*KK+(b:Int)))) es∧((0<k∨b=0)→QuitsD P n 1 g')∧((k=0∧b=1)→Tail P s n 3 g'))→Way P s (n+1) 1 true g
theorem Way.running {P:Program} {s n d:Nat} {rel:Bool} {g:Goroutine} (h:Way P s n d rel g):g.status=.running:=by cases h<;>assumption
theorem Tail.running {P:Program} {s n st:Nat} {g:Goroutine} (h:Tail P s n st g):g.status=.running:=by cases h<;>assumption
def Rel (s:Nat) (T:Trace) (i:Nat):Prop:=∃r,T.g? r=some i∧T.act? r=some (.mark (.releaseMerge (c5 s)))∧T.heard r∧∀j a,touchAt T j=some a→T.g? j=some i→j<r
def Wrote (Still:Loc→Prop) (T:Trace) (i:Nat):Prop:=∀j a,touchAt T j=some a→a.write=true→Still a.loc→Knows T i j
/-! ### cells-/
theorem cell_set {w:World} {r j:Nat} {x:Value} (hc:w.cell? ⟨r,j,none⟩=some x) (y:Value):(w.setCell ⟨r,j,none⟩ y).cell? ⟨r,j,none⟩=some y:=by
 unfold World.cell? World.setCell at*
 cases hw:w.heap[r]? with
 |none=>simp[hw] at hc
 |some o=>
  cases o with
  |cells c t f=>
   simp only[hw,Option.isSome_none,Bool.false_eq_true,if_false] at hc
   have:j<c.size:=by
    have:=Array.getElem?_eq_some_iff.1 hc
    exact this.1
   simp[Array.getElem?_modify,hw,this]
  |_=>simp[hw] at hc
theorem cell_ne {w:World} {r j r' j':Nat} (h:r≠r'∨j≠j') (y:Value):(w.setCell ⟨r,j,none⟩ y).cell? ⟨r',j',none⟩=w.cell? ⟨r',j',none⟩:=by
 unfold World.cell? World.setCell
 by_cases e:r=r'
 ·subst e
  have hj:j≠j':=h.elim (fun x=>absurd rfl x) id
  cases hw:w.heap[r]? with
  |none=>simp[Array.getElem?_modify,hw]
  |some o=>
   cases o with
   |cells c t f=>simp[Array.getElem?_modify,hw,Array.getElem?_setIfInBounds_ne hj]
   |_=>simp[Array.getElem?_modify,hw]
 ·simp[Array.getElem?_modify,e]
theorem heap_ne {w:World} {a:Addr} {y:Value} {k:Nat} (h:k≠a.block):(w.setCell a y).heap[k]?=w.heap[k]?:=by
 unfold World.setCell
 simp[Array.getElem?_modify,Ne.symm h]
theorem seen_set {H:Nat→Option Nat} {w:World} {r n j:Nat} (hr:H r=some n) (hj:n≤j) (y:Value):Seen H w (w.setCell ⟨r,j,none⟩ y):=by
 have hh:vis H (w.setCell ⟨r,j,none⟩ y).heap=vis H w.heap:=by
  apply Array.ext_getElem?
  intro k
  rw[vis_get,vis_get]
  by_cases e:k=r
  ·subst e
   unfold World.setCell
   simp only[Array.getElem?_modify,hr]
   cases hw:w.heap[k]? with
   |none=>simp
   |some o=>
    cases o with
    |cells c t f=>
     simp only[if_true,Option.map_some,Option.isSome_none,Bool.false_eq_true,if_false,see_some,cut,Option.some.injEq,Obj.cells.injEq,and_true]
     apply Array.ext_getElem?
     intro m
     by_cases hm:m<n
     ·simp only[Array.getElem?_extract,Array.size_setIfInBounds]
      rw[Array.getElem?_setIfInBounds_ne (by omega)]
     ·rw[Array.getElem?_eq_none (by simp;omega),Array.getElem?_eq_none (by simp;omega)]
    |_=>simp
  ·rw[heap_ne (a:=⟨r,j,none⟩) e]
 refine⟨hh,rfl,rfl,rfl,fun v hv=>⟨hv.heap.trans hh.symm,hv.os,hv.output,fun k m hk=> ?_⟩,fun k o e hp=>by
  by_cases ek:k=r
  ·subst ek
   unfold World.setCell
   simp only[Array.getElem?_modify,e,if_true,Option.map_some]
   cases o<;>first|rfl|cases hp
  ·rw[heap_ne (a:=⟨r,j,none⟩) ek];exact e⟩
 rcases hv.kinds k m hk with⟨c,t,e⟩|⟨a,b,c,d,e,f,e'⟩|⟨o,e',hp⟩
 ·by_cases ek:k=r
  ·subst ek
   exact .inl ⟨c.setIfInBounds j y,t,by unfold World.setCell;simp[Array.getElem?_modify,e]⟩
  ·exact .inl ⟨c,t,by rw[heap_ne (a:=⟨r,j,none⟩) ek];exact e⟩
 ·right;left
  by_cases ek:k=r
  ·subst ek
   exact⟨a,b,c,d,e,f,by unfold World.setCell;simp[Array.getElem?_modify,e']⟩
  ·exact⟨a,b,c,d,e,f,by rw[heap_ne (a:=⟨r,j,none⟩) ek];exact e'⟩
 ·right;right
  refine⟨o, ?_,hp⟩
  by_cases ek:k=r
  ·subst ek
   unfold World.setCell
   simp only[Array.getElem?_modify,e',if_true,Option.map_some]
   cases o<;>first|rfl|cases hp
  ·rw[heap_ne (a:=⟨r,j,none⟩) ek];exact e'
/-! ### the trace-/
section
variable {Still:Loc→Prop} {Mem Lo:Nat→Prop} {B i:Nat} {Kf:Nat→Prop} {T U:Trace}
theorem Wrote.app (h:Wrote Still T i) (hu:∀op∈U,∀x,op.act.touch?=some x→Still x.loc→x.write=false):Wrote Still (T++U) i:=by
 intro j a ha hw hs
 obtain⟨x,hx,hxa⟩:=touch_of ha
 rcases getElem?_append_cases hx with⟨_,hx'⟩|⟨_,hxu⟩
 ·exact(h j a (by rw[touchAt_of hx'];exact hxa) hw hs).app U
 ·rw[hu x hxu a hxa hs] at hw;cases hw
theorem Rel.app {s:Nat} (h:Rel s T i) (hu:∀op∈U,op.g=i→op.act.touch?=none):Rel s (T++U) i:=by
 obtain⟨r,h1,h2,h3,h4⟩:=h
 have hr:r<T.size:=by
  unfold Trace.g? at h1
  cases e:T[r]? with
  |none=>rw[e] at h1;cases h1
  |some op=>exact lt_size_of_getElem? e
 refine⟨r,by rw[g?_old hr];exact h1,by unfold Trace.act?;rw[getElem?_append_old hr];exact h2, ?_,fun j a ha hg=> ?_⟩
 ·obtain⟨g,e1,e2⟩:=h3
  exact⟨g,by rw[g?_old hr];exact e1,by rw[deaf_old (Nat.le_of_lt hr)];exact e2⟩
 ·obtain⟨x,hx,hxa⟩:=touch_of ha
  rcases getElem?_append_cases hx with⟨hj,hx'⟩|⟨_,hxu⟩
  ·exact h4 j a (by rw[touchAt_of hx'];exact hxa) (by rw[g?_old hj] at hg;exact hg)
  ·rw[g?_of hx] at hg
   rw[hu x hxu (Option.some.inj hg)] at hxa
   cases hxa
theorem Rel.new {s:Nat} {fn:FuncId} {pos:String} (hd:Deaf T i=0) (hu:U=MemOp.ofEvents i fn pos #[mk (.releaseMerge (c5 s))]):Rel s (T++U) i:=by
 have e:(T++U)[T.size]?=some {g:=i,fn:=fn,pos:=pos,act:=.mark (.releaseMerge (c5 s))}:=by
  subst hu
  rw[ofEvents_eq]
  simp[mk,MemAct.ofEvent]
 refine⟨T.size,g?_of e,by unfold Trace.act?;rw[e];rfl,⟨i,g?_of e,by rw[deaf_old (Nat.le_refl _)];exact hd⟩,fun j a ha hg=> ?_⟩
 obtain⟨x,hx,hxa⟩:=touch_of ha
 rcases getElem?_append_cases hx with⟨hj,_⟩|⟨_,hxu⟩
 ·exact hj
 ·subst hu
  rw[ofEvents_eq] at hxu
  simp[mk,MemAct.ofEvent] at hxu
  subst hxu
  simp[MemAct.touch?] at hxa
theorem past_read (hp:PastG Still Mem Lo B Kf T) {Kf':Nat→Prop} (hK:∀j,Kf j→Kf' j) (hw:Wrote Still T i) (hl:Lo i) (hd:Deaf T i=0) (hu:∀op∈U,op.g=i) (hr:∀op∈U,∀b,op.act.touch?=some b→b.write=false∧Still b.loc)
 (hd':Deaf (T++U) i=Deaf T i) (hlow:∀op∈U,op.act.low B):PastG Still Mem Lo B Kf' (T++U):=by
 have h1:PastG Still (fun g=>Mem g∨g=i) Lo B Kf T:=⟨hp.clean,hp.known,fun j a ha hw' hs g hg=>hg.elim (hp.wrote j a ha hw' hs g) fun e=>by rw[e];exact hw j a ha hw' hs,fun g hg=>hg.elim (hp.hears g) fun e=>by rw[e];exact hd,hp.seen⟩
 exact(h1.appRead hK (.inr rfl) hl hu hr hd' hlow).fewer fun g hg=> .inl hg
end
section
variable {P:Program} {X:Fx} {h:Nat} {A A':Nat→Prop} {B:Nat} {T T0 U U0:Trace} {gs gs':Array Goroutine} {w w':World} {q:Nat→Nat}
theorem core_put (C:Core P X h B A T0 gs w q) {i n':Nat} (hih:i≠h) (hIn:X.Inb i=none) (hM:¬X.Mem i) (hA:∀j,j≠i→(A' j↔A j)) (hlt:i<gs.size) (hsz:gs'.size=gs.size) (hoth:∀j,j≠i→gs'[j]?=gs[j]?) (hU:∀op∈U0,op.g=i)
 (hi:¬A' i→∀gr,gs'[i]?=some gr→0<i∧QuitsD P n' (Deaf (T0++U0) i) gr) (hpast:PastG X.Still X.Mem X.Lo B (Knows (T0++U0) h) (T0++U0)) (hK:X.K w') (hch:∀j s c,X.Inb j=some s→s.has c→w'.heap[c]?=w.heap[c]?):
 Core P X h B A' (T0++U0) gs' w' (upd q i n'):=by
 refine⟨fun x y hx hy=> ?_,fun j s c _ e hc=>by rw[hch j s c e hc];exact C.chans j s c id e hc,C.wf,fun _ _ hx=>hx.elim,C.inj,fun j hj=> ?_,C.mem,fun j hj=> ?_,fun j s hj e=>C.lo j s (fun z=>hj (z.imp id fun za=>(hA j (fun e'=>by rw[e',hIn] at e;cases e)).2 za)) e,hpast,hK⟩
 ·by_cases e:x=i
  ·subst e
   rw[hIn]
   have:=hi (fun z=>hx (.inr z)) y hy
   rw[upd_same]
   exact this
  ·rw[hoth x e] at hy
   rw[upd_ne q n' e]
   have hi':=C.idle x y (fun z=>hx (z.imp id (hA x e).2)) hy
   cases es:X.Inb x with
   |none=>rw[es] at hi';exact⟨hi'.1,by rw[Deaf_other T0 (fun z=>e z.symm) U0 hU];exact hi'.2⟩
   |some s=>rw[es] at hi';exact hi'
 ·rw[Deaf_other T0 (g':=i) (by omega) U0 hU]
  exact C.above j (by omega)
 ·have hji:j≠i:=fun e=>hM (e▸hj)
  exact(C.nomem j hj).imp id fun z=>z.imp id (hA j hji).2
theorem sum_lt {gs:Array Goroutine} {q:Nat→Nat} {i n':Nat} (hlt:i<gs.size) (hn:n'<q i):sumTo gs.size (upd q i n')<sumTo gs.size q:=by
 have h2:sumTo gs.size (upd q i n')+q i=sumTo gs.size q+n':=by simpa using sumTo_upd q n' id hlt
 omega
theorem others_stand (C:CompA P X h B A T0 gs w q) {K':World} (hK:X.K K') (hch:∀j s c,X.Inb j=some s→s.has c→K'.heap[c]?=w.heap[c]?) (hh:∀gh,gs[h]?=some gh→gh.status=.running) {i:Nat} {g g':Goroutine}:
 ∀j,j≠i→((gs.map (woken P g g' K')).setIfInBounds i g')[j]?=gs[j]?:=by
 intro j hj
 rw[Array.getElem?_setIfInBounds_ne (fun e=>hj e.symm),Array.getElem?_map]
 cases e:gs[j]? with
 |none=>rfl
 |some y=>
  have C':Core P X h B A T0 gs K' q:=⟨C.core.idle,fun j s c _ e hc=>by rw[hch j s c e hc];exact C.core.chans j s c id e hc,C.core.wf,C.core.live,C.core.inj,C.core.above,C.core.mem,C.core.nomem,C.core.lo,C.core.past,hK⟩
  have:woken P g g' K' y=y:=woken_of_again (by
   by_cases eh:j=h
   ·subst eh;exact again_of_running (.inl (hh y e)) _
   ·by_cases ea:A j
    ·exact again_of_running (.inl (C.run j y ea e)) _
    ·exact C'.fixed (fun z=>z.elim eh ea) e)
  simp[this]
end
end Co
end Go.Proofs.Ytlngbdggehghgaa

namespace Go.Proofs.Ytlngbdggehghgaa
set_option linter.unusedSimpArgs false
set_option linter.unusedVariables false
namespace Co
open Go.Conc
open Go.ConcN (sumTo upd sumTo_upd upd_ne upd_same)
structure Wk where
 i:Nat
 r:Nat
 ct:Nat
 cb:Nat
structure Kit where
 zt:Value
 home:Nat→Wk→Goroutine→Prop
 R:Nat
def Kit.seat (κ:Kit) (s:Nat) (x:Wk):Seat:=Seat.one x.ct κ.zt true (κ.home s x)
structure Kit.Ok (P:Program) (κ:Kit):Prop where
 out:∀s x g₂,κ.home s x g₂→∃n,n≤κ.R∧Way P s n 0 false (Go.Conc.served g₂ (recvd true κ.zt false))
structure Gh where
 on:Bool
 s:Nat
 rs:List Wk
 up:Nat
 off:Nat
 cnt:Nat
 lim:Nat
 m0:Option Seat
 ear:Bool
 hid:List (Nat×Nat)
 n:Nat
def hidOf (l:List (Nat×Nat)) (x:Nat):Option Nat:=(l.find? (·.1==x)).map (·.2)
theorem hidOf_cons (a n:Nat) (l:List (Nat×Nat)) (x:Nat):hidOf ((a,n)::l) x=if a=x then some n else hidOf l x:=by
 unfold hidOf
 rw[List.find?_cons]
 by_cases h:a=x
 ·simp[h]
 ·have:(a==x)=false:=by simpa using h
  simp only[this,h,if_false]
def Gh.sit (g:Gh):List Wk:=(g.rs.take g.up).drop g.off
def Gh.gone (g:Gh):List Wk:=g.rs.take g.off
def Gh.K (g:Gh) (w:World):Prop:=∀x∈g.rs,w.cell? ⟨x.r,11,none⟩=some (.chan (some x.ct))∧w.cell? ⟨x.r,12,none⟩=some (.chan (some x.cb))
def Gh.Still (g:Gh) (l:Loc):Prop:=∃x∈g.rs,l=.cell ⟨x.r,11,none⟩∨l=.cell ⟨x.r,12,none⟩
def Gh.seat (κ:Kit) (g:Gh) (i:Nat):Option Seat:=if i=0 then g.m0 else(g.sit.find? (·.i==i)).map fun x=>κ.seat g.s x
def Gh.Mem (g:Gh) (i:Nat):Prop:=(i=0∧g.ear=true)∨∃x∈g.sit,x.i=i
structure Gh.I (g:Gh) (w:World):Prop where
 sm:g.on=true→w.cell? (c6 g.s)=some (.int .u32 0)
 fz:g.on=true→∃c t,w.heap[g.s]?=some (.cells c t (0,0))
 back:∀x∈g.rs,∃k,w.heap[x.cb]?=some (.chan 0 #[] false k k false)
 turn:∀x∈g.rs,x∉g.gone→∃k,w.heap[x.ct]?=some (.chan 0 #[] false k k false)
 shut:∀x∈g.gone,∃k,w.heap[x.ct]?=some (.chan 0 #[] true k k false)
inductive Doer (P:Program) (κ:Kit) (g:Gh) (B:Nat) (T:Trace) (x:Wk):Nat→Goroutine→Prop
 |far {k:Nat} {gr:Goroutine} {w₀:World}:gr.status=.running→Goes P false (RK g.K) (DS g.Still B) (fun a _=> ∃g₂,AtIn P false g.K g.Still B (κ.seat g.s x) a g₂) k gr w₀→Deaf T x.i=0→Wrote g.Still T x.i→Doer P κ g B T x (k+1+κ.R) gr
 |way {n d:Nat} {rel:Bool} {gr:Goroutine}:Way P g.s n d rel gr→Deaf T x.i=d→(rel=true→Rel g.s T x.i)→Doer P κ g B T x n gr
open Classical in
noncomputable def busy (A:Nat→Prop) (l:List Wk):Nat:=l.countP fun x=>decide (A x.i)
structure Gh.Ex (P:Program) (κ:Kit) (g:Gh) (B:Nat) (A:Nat→Prop) (T:Trace) (gs:Array Goroutine) (w:World) (q:Nat→Nat):Prop where
 sub:∀i,A i→∃x∈g.gone,x.i=i
 each:∀x∈g.gone,A x.i→∃gr,gs[x.i]?=some gr∧Doer P κ g B T x (q x.i) gr
 rest:∀x∈g.gone,¬A x.i→Rel g.s T x.i
 st:g.on=true→w.cell? (c5 g.s)=some (.int .u64 (((g.cnt+busy A g.gone:Nat):Int)*KK))
 lim:busy A g.gone≤g.lim
 low:∀x∈g.gone,x.ct<B
 lowS:g.on=true→g.s<B
 deaf0:g.ear=false→Deaf T 0=1
 norel:∀k a,T.act? k≠some (.mark (.release a))
def Gh.fx (P:Program) (κ:Kit) (g:Gh) (h:Nat):Fx:=
 {H:=hidOf g.hid,K:=g.K,Still:=g.Still,Mem:=g.Mem,Lo:=fun i=>i≠h∧((g.seat κ i).isSome∨∃x∈g.gone,x.i=i),Inb:=g.seat κ,I:=g.I,Ex:=g.Ex P κ,n:=g.n}
structure Gh.Ok (g:Gh) (h:Nat):Prop where
 s:g.on=true→hidOf g.hid g.s=some 5
 r:∀x∈g.rs,hidOf g.hid x.r=some 11∧hidOf g.hid x.ct=some 0∧hidOf g.hid x.cb=some 0
 up:g.up≤g.rs.length
 pos:∀x∈g.rs,x.i≠0
 inj:(g.rs.map (·.i)).Nodup
 off:g.off=0∨(g.on=true∧h=0∧g.up=g.rs.length)
 ear:g.ear=false→h=0
 chn:((g.rs.map (·.ct))++(g.rs.map (·.cb))).Nodup
 num:∀x∈g.rs.take g.up,x.i<g.n
 few:g.cnt+g.off≤500
 m0:∀s,g.m0=some s→∃x∈g.rs,∃z ok home,s=Seat.one x.cb z ok home
section
variable {P:Program} {h:Nat} {κ:Kit} {g:Gh}
theorem hs_cell {H:Nat→Option Nat} {w w':World} (hs:Hs H w w') {r n j:Nat} (hr:H r=some n) (hj:n≤j) {x:Value} (hc:w.cell? ⟨r,j,none⟩=some x):w'.cell? ⟨r,j,none⟩=some x:=by
 have h1:=hs r n hr
 unfold World.cell? at hc⊢
 cases hw:w.heap[r]? with
 |none=>simp[hw] at hc
 |some o=>
  rw[hw] at h1
  cases o with
  |cells c t f=>
   obtain⟨c',e1,e2,e3⟩:=h1.cells
   simp only[hw,Option.isSome_none,Bool.false_eq_true,if_false] at hc
   simp only[e1,Option.isSome_none,Bool.false_eq_true,if_false,e3 j hj]
   exact hc
  |_=>simp[hw] at hc
theorem hs_chan {H:Nat→Option Nat} {w w':World} (hs:Hs H w w') {r n:Nat} (hr:H r=some n) {a:Nat} {bf:Array Value} {cl:Bool} {c d:Nat} {e:Bool} (hc:w.heap[r]?=some (.chan a bf cl c d e)):w'.heap[r]?=some (.chan a bf cl c d e):=by
 have h1:=hs r n hr
 rw[hc] at h1
 exact h1.other (by simp)
theorem hs_row {H:Nat→Option Nat} {w w':World} (hs:Hs H w w') {r n:Nat} (hr:H r=some n) {c:Array Value} {t:TypeId} (hc:w.heap[r]?=some (.cells c t (0,0))):∃c' t',w'.heap[r]?=some (.cells c' t' (0,0)):=by
 have h1:=hs r n hr
 rw[hc] at h1
 obtain⟨c',e1,_⟩:=h1.cells
 exact⟨c',t,e1⟩
theorem unfrozen {w:World} {s j:Nat} {c:Array Value} {t:TypeId} (h:w.heap[s]?=some (.cells c t (0,0))):w.frozen? ⟨s,j,none⟩=false:=by
 unfold World.frozen?
 simp[h]
theorem sit_rs {x:Wk} (hx:x∈g.sit):x∈g.rs:=List.mem_of_mem_take (List.mem_of_mem_drop hx)
theorem gone_rs {x:Wk} (hx:x∈g.gone):x∈g.rs:=List.mem_of_mem_take hx
theorem map_inj {l:List Wk} (hn:(l.map (·.i)).Nodup) {x y:Wk} (hx:x∈l) (hy:y∈l) (e:x.i=y.i):x=y:=by
 induction l with
 |nil=>cases hx
 |cons a l ih=>
  simp only[List.map_cons,List.nodup_cons] at hn
  rcases List.mem_cons.1 hx with h1|h1<;>rcases List.mem_cons.1 hy with h2|h2
  ·rw[h1,h2]
  ·exact absurd (List.mem_map.2 ⟨y,h2,by rw[←e,h1]⟩) hn.1
  ·exact absurd (List.mem_map.2 ⟨x,h1,by rw[e,h2]⟩) hn.1
  ·exact ih hn.2 h1 h2
theorem nodup_of_map {l:List Wk} (hn:(l.map (·.i)).Nodup):l.Nodup:=by
 induction l with
 |nil=>exact .nil
 |cons a l ih=>
  simp only[List.map_cons,List.nodup_cons] at hn
  exact List.nodup_cons.2 ⟨fun hx=>hn.1 (List.mem_map.2 ⟨a,hx,rfl⟩),ih hn.2⟩
theorem gone_sit (hg:g.Ok h) {x y:Wk} (hx:x∈g.gone) (hy:y∈g.sit):x.i≠y.i:=by
 intro e
 have:=map_inj hg.inj (gone_rs hx) (sit_rs hy) e
 subst this
 have hn:=nodup_of_map hg.inj
 have h1:g.rs.take g.off++g.rs.drop g.off=g.rs:=List.take_append_drop _ _
 rw[←h1] at hn
 have h2:x∈g.rs.drop g.off:=by
  have:g.sit=(g.rs.drop g.off).take (g.up-g.off):=by unfold Gh.sit;rw[List.drop_take]
  rw[this] at hy
  exact List.mem_of_mem_take hy
 exact(List.nodup_append.1 hn).2.2 x hx x h2 rfl
theorem seat_cases {i:Nat} {s:Seat} (hi:g.seat κ i=some s):(i=0∧g.m0=some s)∨∃x∈g.sit,x.i=i∧s=κ.seat g.s x:=by
 unfold Gh.seat at hi
 by_cases e:i=0
 ·rw[if_pos e] at hi;exact .inl ⟨e,hi⟩
 ·rw[if_neg e] at hi
  cases hf:g.sit.find? (·.i==i) with
  |none=>rw[hf] at hi;cases hi
  |some x=>
   rw[hf] at hi
   simp only[Option.map_some,Option.some.injEq] at hi
   have h1:=List.mem_of_find?_eq_some hf
   have h2:=List.find?_some hf
   exact .inr ⟨x,h1,by simpa using h2,hi.symm⟩
theorem seat_gone (hg:g.Ok h) {x:Wk} (hx:x∈g.gone):g.seat κ x.i=none:=by
 cases e:g.seat κ x.i with
 |none=>rfl
 |some s=>
  rcases seat_cases e with⟨e0,_⟩|⟨y,hy,e1,_⟩
  ·exact absurd e0 (hg.pos x (gone_rs hx))
  ·exact absurd e1.symm (gone_sit hg hx hy)
theorem off_pos {x:Wk} (hx:x∈g.gone):g.off≠0:=by
 intro e
 unfold Gh.gone at hx
 rw[e] at hx
 simp at hx
theorem chan_hid (hg:g.Ok h) {i:Nat} {s:Seat} {c:Nat} (hi:g.seat κ i=some s) (hc:s.has c):hidOf g.hid c=some 0:=by
 rcases seat_cases hi with⟨_,e⟩|⟨x,hx,_,rfl⟩
 ·obtain⟨x,hx,z,ok,home,rfl⟩:=hg.m0 s e
  rw[Seat.one_has] at hc
  subst hc
  exact(hg.r x hx).2.2
 ·unfold Kit.seat at hc
  rw[Seat.one_has] at hc
  subst hc
  exact(hg.r x (sit_rs hx)).2.1
theorem still_hid (hg:g.Ok h) {l:Loc} (hl:g.Still l):∃a,l=.cell a∧hidOf g.hid a.block=some 11∧11≤a.off:=by
 obtain⟨x,hx,rfl|rfl⟩:=hl
 ·exact⟨_,rfl,(hg.r x hx).1,by simp⟩
 ·exact⟨_,rfl,(hg.r x hx).1,by simp⟩
theorem Gh.Ok.hides (hg:g.Ok h):Hides (hidOf g.hid) g.K g.Still (g.seat κ) where
 keep:=fun w w' hs hk x hx=>⟨hs_cell hs (hg.r x hx).1 (by omega) (hk x hx).1,hs_cell hs (hg.r x hx).1 (by omega) (hk x hx).2⟩
 at_:=fun w d hk=>hk
 still:=fun l hl=>let⟨a,e,h1,h2⟩:=still_hid hg hl;⟨a,11,e,h1,h2⟩
 chan:=fun i s c hi hc=>⟨0,chan_hid hg hi hc⟩
theorem Gh.Ok.keepI (hg:g.Ok h) {w w':World} (hs:Hs (hidOf g.hid) w w') (hi:g.I w):g.I w':=
 ⟨fun e=>hs_cell hs (hg.s e) (by omega) (hi.sm e),fun e=>let⟨c,t,h1⟩:=hi.fz e;hs_row hs (hg.s e) h1,fun x hx=>let⟨k,e⟩:=hi.back x hx;⟨k,hs_chan hs (hg.r x hx).2.2 e⟩,fun x hx hn=>let⟨k,e⟩:=hi.turn x hx hn;⟨k,hs_chan hs (hg.r x hx).2.1 e⟩,
  fun x hx=>let⟨k,e⟩:=hi.shut x hx;⟨k,hs_chan hs (hg.r x (gone_rs hx)).2.1 e⟩⟩
theorem Gh.Ok.wg (hg:g.Ok h) {l:Loc} (hl:g.Still l):¬wgc (hidOf g.hid) l:=by
 obtain⟨a,rfl,h1,_⟩:=still_hid hg hl
 rintro⟨b,e,h2,_⟩
 cases e
 rw[h1] at h2
 cases h2
theorem goes_mono {B B':Nat} (hB:B≤B') {s:Seat}:∀(k:Nat) (a:Goroutine) (w:World),Goes P false (RK g.K) (DS g.Still B) (fun a _=> ∃g₂,AtIn P false g.K g.Still B s a g₂) k a w→Goes P false (RK g.K) (DS g.Still B') (fun a _=> ∃g₂,AtIn P false g.K g.Still B' s a g₂) k a w:=by
 have hev:∀e,EvC g.Still B e→EvC g.Still B' e:=fun e ⟨a,h1,h2,h3⟩=>⟨a,h1,h2,by omega⟩
 have hat:∀a g₂,AtIn P false g.K g.Still B s a g₂→AtIn P false g.K g.Still B' s a g₂:=fun g g₂ ⟨h1,h2,h3,h4,h5,es,h6,h7⟩=>⟨h1,h2,h3,h4,h5,es,fun e he=>hev e (h6 e he),h7⟩
 intro k
 induction k with
 |zero=>intro a w hg w₁ h₁;obtain⟨g₂,h2⟩:=hg w₁ h₁;exact⟨g₂,hat _ _ h2⟩
 |succ k ih=>
  intro a w hg
  rcases hg with hstop|⟨hr,hst⟩
  ·exact .inl fun w₁ h₁=>let⟨g₂,h2⟩:=hstop w₁ h₁;⟨g₂,hat _ _ h2⟩
  ·refine .inr ⟨hr,fun w₁ h₁=> ?_⟩
   have:=hst w₁ h₁
   cases hgo:stepG P false a w₁ with
   |go g' w' es=>
    rw[hgo,goes_go] at this
    rw[goes_go]
    exact⟨⟨this.1.1,fun e he=>hev e (this.1.2 e he)⟩,ih _ _ this.2⟩
   |_=>rw[hgo] at this;exact this.elim
theorem Doer.mono {B B':Nat} (hB:B≤B') {T:Trace} {x:Wk} {n:Nat} {gr:Goroutine} (hd:Doer P κ g B T x n gr):Doer P κ g B' T x n gr:=by
 cases hd with
 |far h1 h2 h3 h4=>exact .far h1 (goes_mono hB _ _ _ h2) h3 h4
 |way h1 h2 h3=>exact .way h1 h2 h3
theorem Doer.app {B:Nat} {T U:Trace} {x:Wk} {n i:Nat} {gr:Goroutine} (hd:Doer P κ g B T x n gr) (hi:x.i≠i) (hu:∀op∈U,op.g=i) (hw:∀op∈U,∀y,op.act.touch?=some y→g.Still y.loc→y.write=false):Doer P κ g B (T++U) x n gr:=by
 have hdf:Deaf (T++U) x.i=Deaf T x.i:=Deaf_other T (fun e=>hi e.symm) U hu
 cases hd with
 |far h1 h2 h3 h4=>exact .far h1 h2 (hdf.trans h3) (h4.app hw)
 |way h1 h2 h3=>exact .way h1 (hdf.trans h2) fun e=>(h3 e).app fun op hop eg=>absurd ((hu op hop).symm.trans eg).symm hi
end
end Co
end Go.Proofs.Ytlngbdggehghgaa

/-
  One step of plain code: what it does in the world that is seen it does in the whole one, whoever the goroutine is and whatever lies below. Conditions: as each theorem says.
  Goroutines in plain code: their records, one step. Conditions: as each theorem says.
  A lone run that ends well on every tape, whatever lies below, is a tree of steps that any company's tape goes through (Dem). Conditions: as each theorem says.
  The true trace and the one in which what touches a WaitGroup's cells is taken out: what happens before what, races, what is handed over. Conditions: as each theorem says.
-/
import Derived.Test.YtlngbdggehghgaaCoH
import Derived.Conc.CompanyDraw
namespace Go.Proofs.Ytlngbdggehghgaa
set_option linter.unusedSimpArgs false
set_option linter.unusedVariables false
namespace Co
open Go.Conc
def plainCode (P:Program) (L:Nat→Bool) (M:String→Bool):Code→Bool
 | .skip| .ret| .label _| .exit _=>true
 | .seq a b=>plainCode P L M a&&plainCode P L M b
 | .cond _ a b=>plainCode P L M a&&plainCode P L M b
 | .block _ c| .loop c| .scope c=>plainCode P L M c
 | .region _ ops _=>ops.all fun o=>plainOp P L M o.op
 |_=>false
def plainItem (P:Program) (L:Nat→Bool) (M:String→Bool):Item→Bool
 | .code c| .inLoop c| .inScope c=>plainCode P L M c
 | .inBlock _=>true
 | .inRegion ops _=>ops.all fun o=>plainOp P L M o.op
 |_=>false
def closedC (ρ:Bool):List Nat→Code→Bool
 |ids,.exit id=>ids.contains id
 |_,.ret=>ρ
 |ids,.seq a b=>closedC ρ ids a&&closedC ρ ids b
 |ids,.cond _ a b=>closedC ρ ids a&&closedC ρ ids b
 |ids,.block id c=>closedC ρ (id::ids) c
 |ids,.loop c=>closedC ρ ids c
 |ids,.scope c=>closedC ρ ids c
 |_,_=>true
def blocks:List Item→List Nat
 | .inBlock id::r=>id::blocks r
 |_::r=>blocks r
 |[]=>[]
def closedI (ρ:Bool) (ids:List Nat):Item→Bool
 | .code c| .inLoop c| .inScope c=>closedC ρ ids c
 |_=>true
def closedL (ρ:Bool):List Item→Bool
 |i::r=>closedI ρ (blocks r) i&&closedL ρ r
 |[]=>true
theorem exitTo_app {id:Nat} {r r':List Item} (h:exitTo id r=some r') (K:List Item):exitTo id (r++K)=some (r'++K):=by
 induction r with
 |nil=>cases h
 |cons i r ih=>
  cases i with
  |inBlock id'=>
   simp only[exitTo] at h
   simp only[List.cons_append,exitTo]
   split
   ·rename_i e;rw[if_pos e] at h;cases h;rfl
   ·rename_i e;rw[if_neg e] at h;exact ih h
  |_=>exact ih h
theorem exitTo_all {p:Item→Bool} {id:Nat} {r r':List Item} (h:exitTo id r=some r') (hp:r.all p=true):r'.all p=true:=by
 induction r with
 |nil=>cases h
 |cons i r ih=>
  simp only[List.all_cons,Bool.and_eq_true] at hp
  cases i with
  |inBlock id'=>
   simp only[exitTo] at h
   split at h
   ·cases h;exact hp.2
   ·exact ih h hp.2
  |_=>exact ih h hp.2
theorem exitTo_closed {ρ:Bool} {id:Nat} {r r':List Item} (h:exitTo id r=some r') (hp:closedL ρ r=true):closedL ρ r'=true:=by
 induction r with
 |nil=>cases h
 |cons i r ih=>
  simp only[closedL,Bool.and_eq_true] at hp
  cases i with
  |inBlock id'=>
   simp only[exitTo] at h
   split at h
   ·cases h;exact hp.2
   ·exact ih h hp.2
  |_=>exact ih h hp.2
theorem exitTo_blocks {id:Nat} {r:List Item} (h:(blocks r).contains id=true):∃r',exitTo id r=some r':=by
 induction r with
 |nil=>cases h
 |cons i r ih=>
  cases i with
  |inBlock id'=>
   simp only[exitTo]
   by_cases e:(id'==id)=true
   ·exact⟨r,by rw[if_pos e]⟩
   ·rw[if_neg e]
    refine ih ?_
    simp only[blocks,List.contains_cons,Bool.or_eq_true] at h
    rcases h with h|h
    ·exfalso;apply e;simp only[beq_iff_eq] at h⊢;exact h.symm
    ·exact h
  |_=>exact ih h
structure VS (v v':World) (k:Nat):Prop where
 tape:v'.tape=v.tape
 nv:nview v'.heap
 size:v.heap.size≤v'.heap.size
 drawn:v'.drawn=v.drawn+k
structure WS (H:Nat→Option Nat) (w w' v':World) (k:Nat):Prop where
 vis:Vis H w' v'
 tape:w'.tape=w.tape
 drawn:w'.drawn=w.drawn+k
 hs:Hs H w w'
inductive Out where
 |go (tmps:Array Value) (t:List Item)
 |enter (f:Nat) (args:Array Value)
def Out.gor (P:Program) (b:Frame) (tmps:Array Value) (t:List Item) (ds:List Deferred) (K:List Item) (C:List Frame):Out→Goroutine
 | .go tmps' t'=>G (b.at ⟨tmps',ds⟩ (t'++K)) C
 | .enter f args=>{frame:=Frame.enter P f args .normal,callers:=b.at ⟨tmps,ds⟩ (t++K)::C,status:=.running,dying:=none}
def Bad (fr:Frame) (C:List Frame) (s:GStep):Prop:=
 (∃o w es,s=.ended o w es)∨∃ch w es,s=.go (G {fr with mode:=.panicking ch} C) w es
section
variable {ρ:Bool} {P:Program} {L:Nat→Bool} {M:String→Bool} {H:Nat→Option Nat}
def waits:List Item→Prop
 | .inRegion _ (_::_)::_=>True
 |_=>False
def GoodOut (ρ:Bool) (P:Program) (L:Nat→Bool) (M:String→Bool) (t:List Item):Out→Prop
 | .go _ t'=>t'.all (plainItem P L M)=true∧(closedL ρ t=true→closedL ρ t'=true)
 | .enter f _=>L f=true∧waits t
def Steps1 (ρ:Bool) (P:Program) (L:Nat→Bool) (M:String→Bool) (b:Frame) (tmps:Array Value) (t:List Item) (v:World):Prop:=
 (∃k,∀u,Same u v→Ans v u k→∀main ds K C,Bad (b.at ⟨tmps,ds⟩ (t++K)) C (stepG P main (G (b.at ⟨tmps,ds⟩ (t++K)) C) u))∨
 ∃o v' k,GoodOut ρ P L M t o∧VS v v' k∧
  ∀(H:Nat→Option Nat),(∀r n,H r=some n→r<v.heap.size)→∀w,Vis H w v→Ans v w k→∃w',WS H w w' v' k∧∀main ds K C,∃es,(∀e∈es,EvOk H w'.heap.size e)∧stepG P main (G (b.at ⟨tmps,ds⟩ (t++K)) C) w=.go (o.gor P b tmps t ds K C) w' es
theorem steps1_still {b:Frame} {tmps tmps':Array Value} {t t':List Item} {v:World} (hn:nview v.heap) (hp:t'.all (plainItem P L M)=true) (hc:closedL ρ t=true→closedL ρ t'=true)
 (h:∀main ds K C w,∃es,es=#[]∧stepG P main (G (b.at ⟨tmps,ds⟩ (t++K)) C) w=.go (G (b.at ⟨tmps',ds⟩ (t'++K)) C) w es):Steps1 ρ P L M b tmps t v:=
 .inr ⟨.go tmps' t',v,0,⟨hp,hc⟩,⟨rfl,hn,Nat.le_refl _,rfl⟩,
  fun H _ w hv _=>⟨w,⟨hv,rfl,rfl,Hs.refl H w⟩,fun main ds K C=>let⟨es,e0,e⟩:=h main ds K C w;⟨es,by subst e0;simp,e⟩⟩⟩
theorem stepG_scope {main:Bool} {b:Frame} {a:Act} {k:List Item} {cs:List Frame} {w:World} {c:Code}:stepG P main (G (b.at a (.code (.scope c)::k)) cs) w=.go (G (b.at a (.code c:: .inScope c::k)) cs) w:=by simp[G,stepG,stepG.exec,Frame.at]
theorem stepG_inScope {main:Bool} {b:Frame} {a:Act} {k:List Item} {cs:List Frame} {w:World} {c:Code}:stepG P main (G (b.at a (.inScope c::k)) cs) w=.go (G (b.at a k) cs) w:=by simp[G,stepG,stepG.exec,Frame.at]
theorem stepG_unwanted {main:Bool} {b:Frame} {a:Act} {k:List Item} {cs:List Frame} {w:World} {ops:Array Oper} {i:Nat} {rest:List Nat} (h:((ops[i]?).map (Region.wanted · (yielded ops a.tmps))).getD false=false):
 stepG P main (G (b.at a (.inRegion ops (i::rest)::k)) cs) w=.go (G (b.at (a.put ((ops[i]?).bind (·.dst)) undef) (.inRegion ops rest::k)) cs) w:=by
 rw[←Frame.finish_at]
 have h':=h
 simp only[Frame.at] at*
 simp[G,stepG,stepG.exec,h']
theorem stepG_enter {main:Bool} {b:Frame} {a:Act} {k:List Item} {cs:List Frame} {w w':World} {ops:Array Oper} {i:Nat} {rest:List Nat} {o:Oper} {f:FuncId} {args:Array Value} (ho:ops[i]?=some o) (hw:Region.wanted o (yielded ops a.tmps)=true)
 (hk:b.kind≠.early) (hr:(execOp a.eval o).run P w=.ok (.enter f args) w'):
 stepG P main (G (b.at a (.inRegion ops (i::rest)::k)) cs) w=.go {frame:=Frame.enter P f args .normal,callers:=b.at a (.inRegion ops (i::rest)::k)::cs,status:=.running,dying:=none} w' (listed P b.fn a o w):=by
 have hk':(b.kind==CallKind.early)=false:=by simpa using hk
 rw[stepG_oper ho hw]
 simp[stepG.apply,hr,Frame.at,hk',GStep.after,listed]
theorem put_ds (tmps:Array Value) (ds:List Deferred) (d:Option Tmp) (x:Value):(⟨tmps,ds⟩:Act).put d x=⟨((⟨tmps,[]⟩:Act).put d x).tmps,ds⟩:=by cases d<;>rfl
theorem seen_sub {fn:FuncId} {es:Array Event} {e:Event} (h:e∈seen P fn es):e∈es:=by
 unfold seen at h
 dsimp only at h
 rw[←Array.foldl_toList] at h
 have key:∀(l:List Event) (x:Bool×Array Event),e∈(l.foldl (fun(x:Bool×Array Event) e=>match x with
  |(q,kept)=>match e.loc with
   | .mark (.extern f)=>((P.funcs[f]?).any (·.norace),kept)
   |_=>(q,if q&& !e.sync then kept else kept.push e)) x).2→e∈x.2∨e∈l:=by
  intro l
  induction l with
  |nil=>intro x h;exact .inl h
  |cons y l ih=>
   intro x h
   rw[List.foldl_cons] at h
   rcases ih _ h with h1|h1
   ·obtain⟨q,kept⟩:=x
    dsimp only at h1
    split at h1
    ·exact .inl h1
    ·dsimp only at h1
     split at h1
     ·exact .inl h1
     ·rcases Array.mem_push.1 h1 with h2|h2
      ·exact .inl h2
      ·exact .inr (by rw[h2];exact List.mem_cons_self)
   ·exact .inr (List.mem_cons_of_mem _ h1)
 rcases key _ _ h with h1|h1
 ·simp at h1
 ·exact Array.mem_toList_iff.1 h1
theorem item_step (T:Table P L M) {b:Frame} (hk:b.kind≠.early) {tmps:Array Value} {i:Item} {r:List Item} {v:World} (hn:nview v.heap)
 (hp:(i::r).all (plainItem P L M)=true) (hx:∀id,i=.code (.exit id)→∃r',exitTo id r=some r') (hr:i≠.code .ret):Steps1 ρ P L M b tmps (i::r) v:=by
 have hp':=hp
 simp only[List.all_cons,Bool.and_eq_true] at hp
 obtain⟨hi,hrr⟩:=hp
 cases i with
 |code c=>
  cases c with
  |skip=>exact steps1_still hn hrr (by simp[closedL]) fun main ds K C w=>⟨_,rfl,stepG_skip⟩
  |label l=>exact steps1_still hn hrr (by simp[closedL]) fun main ds K C w=>⟨_,rfl,stepG_label⟩
  |ret=>exact absurd rfl hr
  |exit id=>
   obtain⟨r',h1⟩:=hx id rfl
   exact steps1_still hn (exitTo_all h1 hrr) (fun hc=>exitTo_closed h1 (by simp only[closedL,Bool.and_eq_true] at hc;exact hc.2)) fun main ds K C w=>⟨_,rfl,stepG_exit (exitTo_app h1 K)⟩
  |seq x y=>
   simp only[plainItem,plainCode,Bool.and_eq_true] at hi
   exact steps1_still (t':=.code x:: .code y::r) hn (by simp[plainItem,hi.1,hi.2,hrr]) (by simp[closedL,closedI,closedC,blocks];intro a b c;exact⟨a,b,c⟩) fun main ds K C w=>⟨_,rfl,stepG_seq⟩
  |cond c x y=>
   simp only[plainItem,plainCode,Bool.and_eq_true] at hi
   by_cases hb:∃t,(⟨tmps,[]⟩:Act).eval c=.bool t
   ·obtain⟨t,ht⟩:=hb
    refine steps1_still (t':=.code (if t then x else y)::r) hn ?_ ?_ fun main ds K C w=>⟨_,rfl,stepG_cond (a:=⟨tmps,ds⟩) (t:=t) ?_⟩
    ·cases t<;>simp[plainItem,hi.1,hi.2,hrr]
    ·cases t<;>simp[closedL,closedI,closedC]<;>(intro a b c;first|exact⟨a,c⟩|exact⟨b,c⟩)
    ·rw[←ht];cases c<;>rfl
   ·refine .inl ⟨0,fun u hs ha main ds K C=> .inl ?_⟩
    have hne:∀t,(b.at ⟨tmps,ds⟩ (.code (.cond c x y)::r++K)).eval c≠.bool t:=by
     intro t h
     apply hb
     refine⟨t, ?_⟩
     rw[←h]
     cases c<;>rfl
    have e:∃s,stepG P main (G (b.at ⟨tmps,ds⟩ (.code (.cond c x y)::r++K)) C) u=.ended s u:=by
     generalize hF:b.at ⟨tmps,ds⟩ (.code (.cond c x y)::r++K)=F at hne
     have h1:F.mode=.run:=by rw[←hF];rfl
     have h2:F.todo=.code (.cond c x y)::r++K:=by rw[←hF];rfl
     cases hv:F.eval c with
     |bool t=>exact absurd hv (hne t)
     |_=>exact⟨_,by simp[G,stepG,stepG.exec,h1,h2,hv];rfl⟩
    obtain⟨s,e⟩:=e
    exact⟨s,u,_,e⟩
  |block id c=>exact steps1_still (t':=.code c:: .inBlock id::r) hn (by simp only[plainItem,plainCode] at hi;simp[plainItem,hi,hrr]) (by simp[closedL,closedI,closedC,blocks]) fun main ds K C w=>⟨_,rfl,stepG_block⟩
  |loop c=>exact steps1_still (t':=.code c:: .inLoop c::r) hn (by simp only[plainItem,plainCode] at hi;simp[plainItem,hi,hrr]) (by simp[closedL,closedI,closedC,blocks]) fun main ds K C w=>⟨_,rfl,stepG_loop⟩
  |scope c=>exact steps1_still (t':=.code c:: .inScope c::r) hn (by simp only[plainItem,plainCode] at hi;simp[plainItem,hi,hrr]) (by simp[closedL,closedI,closedC,blocks]) fun main ds K C w=>⟨_,rfl,stepG_scope⟩
  |region id ops draw=>
   simp only[plainItem,plainCode] at hi
   cases draw with
   |false=>exact steps1_still (t':=.inRegion ops (List.range ops.size)::r) hn (by simp only[List.all_cons,plainItem,hi,hrr,Bool.and_self]) (by simp[closedL,closedI]) fun main ds K C w=>⟨_,rfl,stepG_region⟩
   |true=>
    refine .inr ⟨.go tmps (.inRegion ops (Region.schedule (P.follows .mixedOrders) ops (v.tape v.drawn (.order b.fn id)))::r),{v with drawn:=v.drawn+1},1,⟨by simp only[List.all_cons,plainItem,hi,hrr,Bool.and_self],by simp[closedL,closedI]⟩,⟨rfl,hn,Nat.le_refl _,rfl⟩,fun H _ w hv ha=>⟨{w with drawn:=w.drawn+1},⟨⟨hv.heap,hv.os,hv.output,hv.kinds⟩,rfl,rfl,Hs.refl H w⟩,fun main ds K C=>⟨#[],by simp, ?_⟩⟩⟩
    have e:=ha 0 (.order b.fn id) (by omega)
    simp only[Nat.add_zero] at e
    show stepG P main (G (b.at ⟨tmps,ds⟩ (.code (.region id ops true)::(r++K))) C) w=_
    rw[stepG_region_draw,e]
    rfl
  |_=>simp[plainItem,plainCode] at hi
 |inBlock id=>exact steps1_still hn hrr (by simp[closedL]) fun main ds K C w=>⟨_,rfl,stepG_inBlock⟩
 |inLoop c=>exact steps1_still (t':=.code c:: .inLoop c::r) hn (by simp only[plainItem] at hi;simp[plainItem,hi,hrr]) (by simp[closedL,closedI,blocks]) fun main ds K C w=>⟨_,rfl,stepG_inLoop⟩
 |inScope c=>exact steps1_still hn hrr (by simp[closedL]) fun main ds K C w=>⟨_,rfl,stepG_inScope⟩
 |inRegion ops todo=>
  simp only[plainItem] at hi
  have hreg:∀l,(Item.inRegion ops l::r).all (plainItem P L M)=true:=fun l=>by simp only[List.all_cons,plainItem,hi,hrr,Bool.and_self]
  cases todo with
  |nil=>exact steps1_still hn hrr (by simp[closedL]) fun main ds K C w=>⟨_,rfl,stepG_region_end⟩
  |cons j rest=>
   cases hw:((ops[j]?).map (Region.wanted · (yielded ops tmps))).getD false with
   |false=>
    refine steps1_still (tmps':=((⟨tmps,[]⟩:Act).put ((ops[j]?).bind (·.dst)) undef).tmps) (t':=.inRegion ops rest::r) hn (hreg _) (by simp[closedL,closedI]) fun main ds K C w=>⟨_,rfl, ?_⟩
    rw[←put_ds]
    exact stepG_unwanted (a:=⟨tmps,ds⟩) hw
   |true=>
    cases ho:ops[j]? with
    |none=>rw[ho] at hw;simp at hw
    |some o=>
     rw[ho] at hw
     simp only[Option.map_some,Option.getD_some] at hw
     have hpo:plainOp P L M o.op=true:=by
      rw[Array.all_eq_true_iff_forall_mem] at hi
      exact hi o (Array.mem_of_getElem? ho)
     obtain⟨hS,hN⟩:=plain_op (H:=fun _=>none) T o hpo ⟨tmps,[]⟩
     have hev:∀ds,(⟨tmps,ds⟩:Act).eval=(⟨tmps,[]⟩:Act).eval:=fun ds=>rfl
     cases hrun:(execOp (⟨tmps,[]⟩:Act).eval o).runT P v #[] with
     |mk res es'=>
      have hr1:(execOp (⟨tmps,[]⟩:Act).eval o).run P v=res:=by rw[←Sem.runT_fst P _ v #[],hrun]
      cases res with
      |ok n v'=>
       obtain⟨t1,n1,s1,k,d1,F0⟩:=hS.1 (fun _=>none) v n v' #[] es' hn (fun _ _ e=>by cases e) hrun
       have hvs:VS v v' k:=⟨t1,n1,s1,d1⟩
       have Fw:∀H:Nat→Option Nat,(∀r n,H r=some n→r<v.heap.size)→∀w,Vis H w v→Ans v w k→∃w',WS H w w' v' k∧(execOp (⟨tmps,[]⟩:Act).eval o).run P w=.ok n w'∧∀e∈seen P b.fn ((execOp (⟨tmps,[]⟩:Act).eval o).events P w #[]),EvOk H w'.heap.size e:=by
        intro H hH w hv ha
        obtain⟨_,_,_,k',d',F⟩:=hS.1 H v n v' #[] es' hn hH hrun
        obtain rfl:k'=k:=by omega
        obtain⟨w',gs,e1,e2,e3,e4,e5,e6⟩:=F w #[] hv ha
        refine⟨w',⟨e2,e3,e4,e5⟩,by rw[←Sem.runT_fst P _ w #[],e1],fun e he=>e6 e ?_⟩
        have:=seen_sub he
        unfold Sem.events at this
        rw[e1] at this
        simpa using this
       rcases hN v n v' #[] es' hrun with⟨x,rfl⟩|rfl|⟨f,args,rfl,hL⟩
       ·refine .inr ⟨.go ((⟨tmps,[]⟩:Act).put o.dst x).tmps (.inRegion ops rest::r),v',k,⟨hreg _,by simp[closedL,closedI]⟩,hvs,fun H hH w hv ha=> ?_⟩
        ·obtain⟨w',h1,h2,h3⟩:=Fw H hH w hv ha
         refine⟨w',h1,fun main ds K C=>⟨_,h3, ?_⟩⟩
         show stepG P main (G (b.at ⟨tmps,ds⟩ (.inRegion ops (j::rest)::(r++K))) C) w=.go (G (b.at ⟨_,ds⟩ (.inRegion ops rest::(r++K))) C) w' _
         rw[←put_ds]
         exact stepG_value (a:=⟨tmps,ds⟩) ho hw hk h2
       ·refine .inr ⟨.go ((⟨tmps,[]⟩:Act).put o.dst undef).tmps (.inRegion ops rest::r),v',k,⟨hreg _,by simp[closedL,closedI]⟩,hvs,fun H hH w hv ha=> ?_⟩
        ·obtain⟨w',h1,h2,h3⟩:=Fw H hH w hv ha
         refine⟨w',h1,fun main ds K C=>⟨_,h3, ?_⟩⟩
         show stepG P main (G (b.at ⟨tmps,ds⟩ (.inRegion ops (j::rest)::(r++K))) C) w=.go (G (b.at ⟨_,ds⟩ (.inRegion ops rest::(r++K))) C) w' _
         rw[←put_ds]
         exact stepG_none (a:=⟨tmps,ds⟩) ho hw hk h2
       ·refine .inr ⟨.enter f args,v',k,⟨hL,trivial⟩,hvs,fun H hH w hv ha=> ?_⟩
        obtain⟨w',h1,h2,h3⟩:=Fw H hH w hv ha
        exact⟨w',h1,fun main ds K C=>⟨_,h3,stepG_enter (a:=⟨tmps,ds⟩) ho hw hk h2⟩⟩
      |halt x v'=>
       obtain⟨hg,kh,hh⟩:=hS.2 v #[] x v' es' hn hrun
       refine .inl ⟨kh,fun u hs ha main ds K C=> ?_⟩
       obtain⟨u',gs,hu⟩:=hh u #[] hs ha
       have hr1:(execOp (⟨tmps,[]⟩:Act).eval o).run P u=.halt x u':=by rw[←Sem.runT_fst P _ u #[],hu]
       have hk':(b.kind==CallKind.early)=false:=by simpa using hk
       have hst:stepG P main (G (b.at ⟨tmps,ds⟩ (.inRegion ops (j::rest)::r++K)) C) u=stepG.apply P true (b.at ⟨tmps,ds⟩ (.inRegion ops (j::rest)::r++K)) C none (execOp (⟨tmps,[]⟩:Act).eval o) u:=stepG_oper (a:=⟨tmps,ds⟩) ho hw
       rw[hst]
       cases x with
       |panic y=>exact .inr ⟨[{v:=y,recovered:=false}],u',_,by simp[stepG.apply,hr1,G,Frame.at,hk',GStep.after,Frame.raise];rfl⟩
       |stuck s=>exact .inl ⟨_,u',_,by simp[stepG.apply,hr1,Frame.at,hk',GStep.after];exact⟨rfl,rfl⟩⟩
       |unsupported y=>
        cases y with
        |initOrder g=>exact absurd rfl (hg g)
        |_=>exact .inl ⟨_,u',_,by simp[stepG.apply,hr1,Frame.at,hk',GStep.after];exact⟨rfl,rfl⟩⟩
       |_=>exact hg.elim
 |_=>simp[plainItem] at hi
end
end Co
end Go.Proofs.Ytlngbdggehghgaa

namespace Go.Proofs.Ytlngbdggehghgaa
set_option linter.unusedSimpArgs false
set_option linter.unusedVariables false
namespace Co
open Go.Conc
structure Fr where
 fn:Nat
 tmps:Array Value
 todo:List Item
def base (f:Nat):Frame:={(default:Frame) with fn:=f,kind:=.normal}
def Fr.frame (x:Fr):Frame:=(base x.fn).at ⟨x.tmps,[]⟩ (x.todo++[])
inductive Cfg where
 |run (top:List Fr) (tmps:Array Value) (t:List Item)
 |ret (x:Fr) (top:List Fr) (tmps:Array Value) (t:List Item)
def below (b:Frame) (ds:List Deferred) (K:List Item) (C:List Frame) (top:List Fr) (tmps:Array Value) (t:List Item):List Frame:=
 top.map Fr.frame++b.at ⟨tmps,ds⟩ (t++K)::C
def Cfg.gor (b:Frame) (ds:List Deferred) (K:List Item) (C:List Frame):Cfg→Goroutine
 | .run [] tmps t=>G (b.at ⟨tmps,ds⟩ (t++K)) C
 | .run (x::top) tmps t=>G x.frame (below b ds K C top tmps t)
 | .ret x top tmps t=>G {x.frame with mode:=.returning} (below b ds K C top tmps t)
section
variable {ρ:Bool} {P:Program} {L:Nat→Bool} {M:String→Bool}
def Fr.plain (P:Program) (L:Nat→Bool) (M:String→Bool) (x:Fr):Prop:=L x.fn=true∧x.todo.all (plainItem P L M)=true
def Cfg.Plain (ρ:Bool) (P:Program) (L:Nat→Bool) (M:String→Bool):Cfg→Prop
 | .run [] _ t=>t.all (plainItem P L M)=true∧closedL ρ t=true
 | .run (x::top) _ t=>x.plain P L M∧(∀y∈top,y.plain P L M∧waits y.todo)∧t.all (plainItem P L M)=true∧closedL ρ t=true∧waits t
 | .ret x top _ t=>x.plain P L M∧(∀y∈top,y.plain P L M∧waits y.todo)∧t.all (plainItem P L M)=true∧closedL ρ t=true∧waits t
structure Texts (P:Program) (L:Nat→Bool) (M:String→Bool):Prop extends Table P L M where
 text:∀f fn c,L f=true→P.funcs[f]?=some fn→fn.body=some c→plainCode P L M c=true
def pan (b:Frame) (ds:List Deferred) (K:List Item) (C:List Frame) (top:List Fr) (tmps:Array Value) (t:List Item) (ch:List PanicEntry):Goroutine:=
 match top with
 |[]=>G {b.at ⟨tmps,ds⟩ (t++K) with mode:=.panicking ch} C
 |x::top=>G {x.frame with mode:=.panicking ch} (below b ds K C top tmps t)
def BadG (b:Frame) (ds:List Deferred) (K:List Item) (C:List Frame) (s:GStep):Prop:=
 (∃o w es,s=.ended o w es)∨(∃top tmps t ch w es,s=.go (pan b ds K C top tmps t ch) w es)∨(b.kind=.normal∧∃tmps t w es,s=.go (G {b.at ⟨tmps,ds⟩ (t++K) with mode:=.returning} C) w es)
theorem finish_waits {b:Frame} {tmps:Array Value} {t:List Item} (h:waits t) (x:Value):
 ∃tmps' t',(∀ds K,(b.at ⟨tmps,ds⟩ (t++K)).finish x=b.at ⟨tmps',ds⟩ (t'++K))∧(t.all (plainItem P L M)=true→t'.all (plainItem P L M)=true)∧(closedL ρ t=true→closedL ρ t'=true):=by
 match t,h with
 | .inRegion ops (i::rest)::r,_=>
  refine⟨((⟨tmps,[]⟩:Act).put ((ops[i]?).bind (·.dst)) x).tmps,.inRegion ops rest::r,fun ds K=> ?_,fun hp=> ?_,fun hc=> ?_⟩
  ·show(b.at ⟨tmps,ds⟩ (.inRegion ops (i::rest)::(r++K))).finish x=b.at ⟨_,ds⟩ (.inRegion ops rest::(r++K))
   rw[Frame.finish_at,put_ds]
  ·simpa[plainItem] using hp
  ·simpa[closedL,closedI] using hc
theorem enter_frame (T:Texts P L M) {f:Nat} (hf:L f=true) (args:Array Value):∃x:Fr,x.plain P L M∧Frame.enter P f args .normal=x.frame:=by
 obtain⟨fn,h1,h2,h3⟩:=T.fn f hf
 cases hb:fn.body with
 |none=>rw[hb] at h2;cases h2
 |some c=>
  refine⟨⟨f,args++Array.replicate (fn.ntmps-args.size) undef,[.code c]⟩,⟨hf, ?_⟩, ?_⟩
  ·simp[plainItem,T.text f fn c hf h1 hb]
  ·simp[Frame.enter,h1,hb,Fr.frame,Frame.at,base]
theorem simu_results (H:Nat→Option Nat) (fn:Func) (tmps:Array Value):Simu P H (results fn tmps):=by
 unfold results
 refine simu_bind' (simu_mapM _ (fun x=> ?_) _) fun _=>simu_pure' _
 split
 ·exact simu_pure' _
 ·exact simu_bind' (simu_asAddr _) fun _=>simu_loadVar _ _
theorem stepG_ret {main:Bool} {b:Frame} {a:Act} {k:List Item} {cs:List Frame} {w:World}:stepG P main (G (b.at a (.code .ret::k)) cs) w=.go (G {b.at a (.code .ret::k) with mode:=.returning} cs) w:=by
 simp[G,stepG,stepG.exec,Frame.at]
theorem stepG_lost {main:Bool} {b:Frame} {a:Act} {k:List Item} {cs:List Frame} {w:World} {id:Nat} (h:exitTo id k=none):∃o,stepG P main (G (b.at a (.code (.exit id)::k)) cs) w=.ended o w:=by
 exact⟨_,by simp[G,stepG,stepG.exec,Frame.at,h];rfl⟩
theorem stepG_return {main:Bool} {f:Nat} {tmps:Array Value} {todo:List Item} {c:Frame} {cs:List Frame} {w w':World} {fn:Func} {x:Value} (hf:P.funcs[f]?=some fn) (hr:(results fn tmps).run P w=.ok x w'):
 stepG P main (G {(base f).at ⟨tmps,[]⟩ todo with mode:=.returning} (c::cs)) w=.go (G (c.finish x) cs) w' (seen P f ((results fn tmps).events P w #[])):=by
 simp[G,stepG,unwind,doReturn,Frame.at,base,hf,hr,GStep.after]
theorem stepG_noReturn {main:Bool} {f:Nat} {tmps:Array Value} {todo:List Item} {cs:List Frame} {w w':World} {fn:Func} {h:Halt} (hf:P.funcs[f]?=some fn) (hr:(results fn tmps).run P w=.halt h w'):
 ∃o es,stepG P main (G {(base f).at ⟨tmps,[]⟩ todo with mode:=.returning} cs) w=.ended o w' es:=by
 cases h<;>exact⟨_,_,by simp[G,stepG,unwind,Frame.at,base,hf,hr,GStep.after];exact⟨rfl,rfl⟩⟩
def CStep (ρ:Bool) (P:Program) (L:Nat→Bool) (M:String→Bool) (b:Frame) (c:Cfg) (v:World):Prop:=
 (∃k,∀u,Same u v→Ans v u k→∀main ds K C,BadG b ds K C (stepG P main (c.gor b ds K C) u))∨
 ∃(c':Cfg) (v':World) (k:Nat),c'.Plain ρ P L M∧VS v v' k∧
  ∀(H:Nat→Option Nat),(∀r n,H r=some n→r<v.heap.size)→∀w,Vis H w v→Ans v w k→∃w',WS H w w' v' k∧
   ∀main ds K C,∃es,(∀e∈es,EvOk H w'.heap.size e)∧stepG P main (c.gor b ds K C) w=.go (c'.gor b ds K C) w' es
theorem Bad.g0 {b:Frame} {ds:List Deferred} {K:List Item} {C:List Frame} {tmps:Array Value} {t:List Item} {s:GStep} (h:Bad (b.at ⟨tmps,ds⟩ (t++K)) C s):BadG b ds K C s:=
 h.imp id fun⟨ch,w,es,e⟩=> .inl ⟨[],tmps,t,ch,w,es,e⟩
theorem Bad.g1 {b:Frame} {ds:List Deferred} {K:List Item} {C:List Frame} {tmps:Array Value} {t:List Item} {x:Fr} {top:List Fr} {s:GStep} (h:Bad x.frame (below b ds K C top tmps t) s):BadG b ds K C s:=
 h.imp id fun⟨ch,w,es,e⟩=> .inl ⟨x::top,tmps,t,ch,w,es,e⟩
theorem cstep_still {b:Frame} {c c':Cfg} {v:World} (hn:nview v.heap) (hp:c'.Plain ρ P L M) (h:∀main ds K C w,∃es,es=#[]∧stepG P main (c.gor b ds K C) w=.go (c'.gor b ds K C) w es):CStep ρ P L M b c v:=
 .inr ⟨c',v,0,hp,⟨rfl,hn,Nat.le_refl _,rfl⟩,fun H _ w hv _=>⟨w,⟨hv,rfl,rfl,Hs.refl H w⟩,fun main ds K C=>let⟨es,e0,e⟩:=h main ds K C w;⟨es,by subst e0;simp,e⟩⟩⟩
theorem cfg_step (T:Texts P L M) {b:Frame} (hk:b.kind≠.early) (hρ:ρ=true→b.kind=.normal) {c:Cfg} (hc:c.Plain ρ P L M) (hne:∀tm,c≠.run [] tm []) {v:World} (hn:nview v.heap):CStep ρ P L M b c v:=by
 cases c with
 |run top tmps t=>
  cases top with
  |nil=>
   obtain⟨hp,hcl⟩:=hc
   cases t with
   |nil=>exact absurd rfl (hne tmps)
   |cons i r=>
    have hcl':=hcl
    simp only[closedL,Bool.and_eq_true] at hcl
    by_cases hret:i=.code .ret
    ·subst hret
     have hb:b.kind=.normal:=hρ (by have:=hcl.1;simpa[closedI,closedC] using this)
     exact .inl ⟨0,fun u _ _ main ds K C=> .inr (.inr ⟨hb,tmps,.code .ret::r,u,_,stepG_ret⟩)⟩
    have S:=item_step (ρ:=ρ) (tmps:=tmps) (r:=r) (i:=i) T.toTable hk hn hp (fun id e=>by
     subst e
     have:=hcl.1
     simp only[closedI,closedC] at this
     exact exitTo_blocks this) hret
    rcases S with⟨k,hbad⟩|⟨o,v',k,ho,hvs,F⟩
    ·exact .inl ⟨k,fun u hs ha main ds K C=>(hbad u hs ha main ds K C).g0⟩
    ·cases o with
     |go tmps' t'=>exact .inr ⟨.run [] tmps' t',v',k,⟨ho.1,ho.2 hcl'⟩,hvs,F⟩
     |enter f args=>
      obtain⟨x,hx,he⟩:=enter_frame T ho.1 args
      refine .inr ⟨.run [x] tmps (i::r),v',k,⟨hx,by simp,hp,hcl',ho.2⟩,hvs,fun H hH w hv ha=> ?_⟩
      obtain⟨w',h1,h2⟩:=F H hH w hv ha
      refine⟨w',h1,fun main ds K C=> ?_⟩
      obtain⟨es,h3,h4⟩:=h2 main ds K C
      exact⟨es,h3,by simp only[Out.gor,he] at h4;exact h4⟩
  |cons x top=>
   obtain⟨⟨hL,hp⟩,htop,hpt,hct,hw⟩:=hc
   obtain⟨xf,xt,todo⟩:=x
   cases todo with
   |nil=>exact cstep_still (c':=.ret ⟨xf,xt,[]⟩ top tmps t) hn ⟨⟨hL,hp⟩,htop,hpt,hct,hw⟩ fun main ds K C w=>⟨_,rfl,stepG_end⟩
   |cons i r=>
    by_cases hret:i=.code .ret
    ·subst hret
     exact cstep_still (c':=.ret ⟨xf,xt,.code .ret::r⟩ top tmps t) hn ⟨⟨hL,hp⟩,htop,hpt,hct,hw⟩ fun main ds K C w=>⟨_,rfl,stepG_ret⟩
    by_cases hex:∃id,i=.code (.exit id)∧exitTo id r=none
    ·obtain⟨id,rfl,hex⟩:=hex
     refine .inl ⟨0,fun u _ _ main ds K C=> .inl ?_⟩
     obtain⟨o,e⟩:=stepG_lost (P:=P) (main:=main) (b:=base xf) (a:=⟨xt,[]⟩) (k:=r++[]) (cs:=below b ds K C top tmps t) (w:=u) (id:=id) (by rw[List.append_nil];exact hex)
     exact⟨o,u,_,e⟩
    have S:=item_step (ρ:=ρ) (b:=base xf) (tmps:=xt) (r:=r) (i:=i) T.toTable (by simp[base]) hn hp (fun id e=>by
     cases h:exitTo id r with
     |some r'=>exact⟨r',rfl⟩
     |none=>exact absurd ⟨id,e,h⟩ hex) hret
    rcases S with⟨k,hbad⟩|⟨o,v',k,ho,hvs,F⟩
    ·exact .inl ⟨k,fun u hs ha main ds K C=>Bad.g1 (x:=⟨xf,xt,i::r⟩) (hbad u hs ha main [] [] (below b ds K C top tmps t))⟩
    ·cases o with
     |go tmps' t'=>
      refine .inr ⟨.run (⟨xf,tmps',t'⟩::top) tmps t,v',k,⟨⟨hL,ho.1⟩,htop,hpt,hct,hw⟩,hvs,fun H hH w hv ha=> ?_⟩
      obtain⟨w',h1,h2⟩:=F H hH w hv ha
      exact⟨w',h1,fun main ds K C=>h2 main [] [] (below b ds K C top tmps t)⟩
     |enter f args=>
      obtain⟨y,hy,he⟩:=enter_frame T ho.1 args
      refine .inr ⟨.run (y::⟨xf,xt,i::r⟩::top) tmps t,v',k,⟨hy, ?_,hpt,hct,hw⟩,hvs,fun H hH w hv ha=> ?_⟩
      ·intro z hz
       rcases List.mem_cons.1 hz with rfl|hz
       ·exact⟨⟨hL,hp⟩,ho.2⟩
       ·exact htop z hz
      ·obtain⟨w',h1,h2⟩:=F H hH w hv ha
       refine⟨w',h1,fun main ds K C=> ?_⟩
       obtain⟨es,h3,h4⟩:=h2 main [] [] (below b ds K C top tmps t)
       exact⟨es,h3,by simp only[Out.gor,he] at h4;exact h4⟩
 |ret x top tmps t=>
  obtain⟨⟨hL,hp⟩,htop,hpt,hct,hw⟩:=hc
  obtain⟨xf,xt,todo⟩:=x
  obtain⟨fn,hf,_,_⟩:=T.fn xf hL
  cases hrun:(results fn xt).runT P v #[] with
  |mk res es'=>
   have hS:=fun H=>simu_results (P:=P) H fn xt
   cases res with
   |halt y v'=>
    obtain⟨_,k,hh⟩:=(hS (fun _=>none)).2 v #[] y v' es' hn hrun
    refine .inl ⟨k,fun u hs ha main ds K C=> .inl ?_⟩
    obtain⟨u',gs,hu⟩:=hh u #[] hs ha
    obtain⟨o,es,e⟩:=stepG_noReturn (P:=P) (main:=main) (tmps:=xt) (todo:=todo++[]) (cs:=below b ds K C top tmps t) hf (show(results fn xt).run P u=.halt y u' by rw[←Sem.runT_fst P _ u #[],hu])
    exact⟨o,u',es,e⟩
   |ok y v'=>
    obtain⟨t1,n1,s1,k,d1,_⟩:=(hS (fun _=>none)).1 (fun _=>none) v y v' #[] es' hn (fun _ _ e=>by cases e) hrun
    have Fw:∀H:Nat→Option Nat,(∀r n,H r=some n→r<v.heap.size)→∀w,Vis H w v→Ans v w k→∃w',WS H w w' v' k∧(results fn xt).run P w=.ok y w'∧∀e∈seen P xf ((results fn xt).events P w #[]),EvOk H w'.heap.size e:=by
     intro H hH w hv ha
     obtain⟨_,_,_,k',d',F⟩:=(hS H).1 H v y v' #[] es' hn hH hrun
     obtain rfl:k'=k:=by omega
     obtain⟨w',gs,e1,e2,e3,e4,e5,e6⟩:=F w #[] hv ha
     refine⟨w',⟨e2,e3,e4,e5⟩,by rw[←Sem.runT_fst P _ w #[],e1],fun e he=>e6 e ?_⟩
     have:=seen_sub he
     unfold Sem.events at this
     rw[e1] at this
     simpa using this
    cases top with
    |nil=>
     obtain⟨tmps',t',h1,h2,h3⟩:=finish_waits (ρ:=ρ) (P:=P) (L:=L) (M:=M) (b:=b) (tmps:=tmps) hw y
     refine .inr ⟨.run [] tmps' t',v',k,⟨h2 hpt,h3 hct⟩,⟨t1,n1,s1,d1⟩,fun H hH w hv ha=> ?_⟩
     obtain⟨w',g1,g2,g3⟩:=Fw H hH w hv ha
     refine⟨w',g1,fun main ds K C=>⟨_,g3, ?_⟩⟩
     have:=stepG_return (P:=P) (main:=main) (tmps:=xt) (todo:=todo++[]) (c:=b.at ⟨tmps,ds⟩ (t++K)) (cs:=C) hf g2
     rw[h1 ds K] at this
     exact this
    |cons z top=>
     obtain⟨zf,zt,ztodo⟩:=z
     obtain⟨⟨zL,zp⟩,zw⟩:=htop _ List.mem_cons_self
     obtain⟨tmps',t',h1,h2,_⟩:=finish_waits (ρ:=ρ) (P:=P) (L:=L) (M:=M) (b:=base zf) (tmps:=zt) zw y
     refine .inr ⟨.run (⟨zf,tmps',t'⟩::top) tmps t,v',k,⟨⟨zL,h2 zp⟩,fun q hq=>htop q (List.mem_cons_of_mem _ hq),hpt,hct,hw⟩,⟨t1,n1,s1,d1⟩,fun H hH w hv ha=> ?_⟩
     obtain⟨w',g1,g2,g3⟩:=Fw H hH w hv ha
     refine⟨w',g1,fun main ds K C=>⟨_,g3, ?_⟩⟩
     have:=stepG_return (P:=P) (main:=main) (tmps:=xt) (todo:=todo++[]) (c:=(base zf).at ⟨zt,[]⟩ (ztodo++[])) (cs:=below b ds K C top tmps t) hf g2
     rw[h1 [] []] at this
     exact this
end
end Co
end Go.Proofs.Ytlngbdggehghgaa

namespace Go.Proofs.Ytlngbdggehghgaa
set_option linter.unusedSimpArgs false
set_option linter.unusedVariables false
namespace Co
open Go.Conc
def Kx:List Item:=[.code (.refuse "")]
def Cx:Frame:={(default:Frame) with todo:=[.code (.refuse "")],defers:=[{target:=.nil,args:=#[]}],mode:=.run,kind:=.normal}
def loneG (g:Goroutine) (w:World):Machine:={world:=w,gs:=#[g],rest:={timers:=#[],alone:=none,slice:=none}}
section
variable {ρ:Bool} {P:Program} {L:Nat→Bool} {M:String→Bool} {H:Nat→Option Nat} {b:Frame}
theorem loneG_go {g g':Frame} {cs cs':List Frame} {w w':World} {es:Array Event} (h:stepG P true (G g cs) w=.go (G g' cs') w' es):step P (loneG (G g cs) w)=.next (loneG (G g' cs') w'):=
 step_lone_go (by rw[show({frame:=g,callers:=cs,status:=.running,dying:=none}:Goroutine)=G g cs from rfl,h];rfl)
theorem loneG_ended {g:Frame} {cs:List Frame} {w w':World} {o:Outcome} {es:Array Event} (h:stepG P true (G g cs) w=.ended o w' es):step P (loneG (G g cs) w)=.ended o w':=
 step_lone_ended (by rw[show({frame:=g,callers:=cs,status:=.running,dying:=none}:Goroutine)=G g cs from rfl,h];rfl)
theorem Cfg.split (b:Frame) (ds:List Deferred) (K:List Item) (C:List Frame) (c:Cfg):∃fr cs,c.gor b ds K C=G fr cs:=by
 cases c with
 |run top tmps t=>cases top<;>exact⟨_,_,rfl⟩
 |ret x top tmps t=>exact⟨_,_,rfl⟩
abbrev pans (b:Frame) (top:List Fr) (tmps:Array Value) (t:List Item) (ch:List PanicEntry):Goroutine:=pan b [] Kx [Cx] top tmps t ch
theorem pans_dead (top:List Fr):∀(tmps:Array Value) (t:List Item) (ch:List PanicEntry) (w:World) (n:Nat) (m:Machine),runN P n (loneG (pans b top tmps t ch) w)=.next m→
 ∃g,m.gs=#[g]∧∃ch,g.frame.mode=.panicking ch:=by
 induction top with
 |nil=>
  intro tmps t ch w n m h
  cases n with
  |zero=>simp[runN] at h;subst h;exact⟨_,rfl,ch,rfl⟩
  |succ n=>
   simp only[runN] at h
   cases hc:Frame.catches P {b.at ⟨tmps,[]⟩ (t++Kx) with mode:=.panicking ch} with
   |true=>
    have e:∃o,stepG P true (pans b [] tmps t ch) w=.ended o w:=⟨_,by simp[pan,G,stepG,unwind,Frame.at] at hc⊢;simp[hc];rfl⟩
    obtain⟨o,e⟩:=e
    rw[show step P (loneG (pans b [] tmps t ch) w)=.ended o w from loneG_ended e] at h
    simp at h
   |false=>
    have e:stepG P true (pans b [] tmps t ch) w=.go (G {Cx with mode:=.panicking ch} []) w:=by
     simp[pan,G,stepG,unwind,Frame.at] at hc⊢
     simp[hc,Frame.raise,Cx]
    rw[show step P (loneG (pans b [] tmps t ch) w)=.next (loneG (G {Cx with mode:=.panicking ch} []) w) from loneG_go e] at h
    cases n with
    |zero=>simp[runN] at h;subst h;exact⟨_,rfl,ch,rfl⟩
    |succ n=>
     simp only[runN] at h
     have e:∃o,stepG P true (G {Cx with mode:=.panicking ch} []) w=.ended o w:=⟨_,by simp[G,stepG,unwind,callDeferred,Cx];rfl⟩
     obtain⟨o,e⟩:=e
     rw[loneG_ended e] at h
     simp at h
 |cons x top ih=>
  intro tmps t ch w n m h
  cases n with
  |zero=>simp[runN] at h;subst h;exact⟨_,rfl,ch,rfl⟩
  |succ n=>
   simp only[runN] at h
   cases hc:Frame.catches P {x.frame with mode:=.panicking ch} with
   |true=>
    have e:∃o,stepG P true (pans b (x::top) tmps t ch) w=.ended o w:=⟨_,by simp[pan,G,stepG,unwind,Fr.frame,Frame.at] at hc⊢;simp[hc];rfl⟩
    obtain⟨o,e⟩:=e
    rw[show step P (loneG (pans b (x::top) tmps t ch) w)=.ended o w from loneG_ended e] at h
    simp at h
   |false=>
    have e:stepG P true (pans b (x::top) tmps t ch) w=.go (pans b top tmps t ch) w:=by
     cases top with
     |nil=>
      simp[pan,G,stepG,unwind,Fr.frame,Frame.at,below] at hc⊢
      simp[hc,Frame.raise]
     |cons y top=>
      simp[pan,G,stepG,unwind,Fr.frame,Frame.at,below] at hc⊢
      simp[hc,Frame.raise]
    have e':step P (loneG (pans b (x::top) tmps t ch) w)=.next (loneG (pans b top tmps t ch) w):=by
     cases top<;>exact loneG_go e
    rw[e'] at h
    exact ih tmps t ch w n m h
theorem ret_dead (hb:b.kind=.normal) (tms:Array Value) (t:List Item) (w:World) (n:Nat) (tm:Array Value) (vf:World):
 runN P n (loneG (G {b.at ⟨tms,[]⟩ (t++Kx) with mode:=.returning} [Cx]) w)=.next (loneG (G (b.at ⟨tm,[]⟩ Kx) [Cx]) vf)→False:=by
 intro h
 cases n with
 |zero=>
  simp only[runN,Stepped.next.injEq,loneG,Machine.mk.injEq,Array.mk.injEq,List.cons.injEq,and_true] at h
  have:=congrArg (fun g=>g.frame.mode) h.2
  simp[G,Frame.at] at this
 |succ n=>
  simp only[runN] at h
  have hs:(∃o w' es,stepG P true (G {b.at ⟨tms,[]⟩ (t++Kx) with mode:=.returning} [Cx]) w=.ended o w' es)∨∃x w' es,stepG P true (G {b.at ⟨tms,[]⟩ (t++Kx) with mode:=.returning} [Cx]) w=.go (G (Cx.finish x) []) w' es:=by
   cases hf:P.funcs[b.fn]? with
   |none=>exact .inr ⟨_,_,_,by simp[G,stepG,unwind,doReturn,Frame.at,hb,hf];exact⟨rfl,rfl,rfl⟩⟩
   |some fn=>
    cases hr:(results fn tms).run P w with
    |halt y w'=>cases y<;>exact .inl ⟨_,_,_,by simp[G,stepG,unwind,Frame.at,hb,hf,hr,GStep.after];exact⟨rfl,rfl,rfl⟩⟩
    |ok x w'=>exact .inr ⟨x,w',_,by simp[G,stepG,unwind,doReturn,Frame.at,hb,hf,hr,GStep.after];rfl⟩
  rcases hs with⟨o,w',es,e⟩|⟨x,w',es,e⟩
  ·rw[loneG_ended e] at h
   simp at h
  ·rw[show step P (loneG (G {b.at ⟨tms,[]⟩ (t++Kx) with mode:=.returning} [Cx]) w)=.next (loneG (G (Cx.finish x) []) w') from loneG_go e] at h
   cases n with
   |zero=>
    simp only[runN,Stepped.next.injEq,loneG,Machine.mk.injEq,Array.mk.injEq,List.cons.injEq,and_true] at h
    have:=congrArg (fun g=>g.callers.length) h.2
    simp[G] at this
   |succ n=>
    simp only[runN] at h
    have e:∃o,stepG P true (G (Cx.finish x) []) w'=.ended o w':=⟨_,by simp[G,stepG,stepG.exec,Cx,Frame.finish];rfl⟩
    obtain⟨o,e⟩:=e
    rw[loneG_ended e] at h
    simp at h
theorem gor_inj {c:Cfg} {tm:Array Value} (h:c.gor b [] Kx [Cx]=G (b.at ⟨tm,[]⟩ Kx) [Cx]):c=.run [] tm []:=by
 cases c with
 |run top tmps t=>
  cases top with
  |nil=>
   simp only[Cfg.gor,G,Frame.at,Goroutine.mk.injEq,Frame.mk.injEq,and_true,true_and] at h
   obtain⟨rfl,h2⟩:=h
   have:t.length+Kx.length=Kx.length:=by rw[←List.length_append,h2]
   have:t=[]:=List.eq_nil_of_length_eq_zero (by omega)
   rw[this]
  |cons x top=>
   simp only[Cfg.gor,G,Goroutine.mk.injEq] at h
   have:=congrArg List.length h.2.1
   simp[below] at this
 |ret x top tmps t=>
  simp only[Cfg.gor,G,Goroutine.mk.injEq] at h
  have:=congrArg Frame.mode h.1
  simp[Frame.at] at this
theorem loneG_inj {g g':Goroutine} {w w':World} (h:loneG g w=loneG g' w'):g=g'∧w=w':=by
 simp only[loneG,Machine.mk.injEq,Array.mk.injEq,List.cons.injEq,and_true] at h
 exact⟨h.2,h.1⟩
def LoneRun (P:Program) (b:Frame) (c:Cfg) (v:World) (n:Nat) (tm:Array Value) (vf:World):Prop:=
 runN P n (loneG (c.gor b [] Kx [Cx]) v)=.next (loneG (G (b.at ⟨tm,[]⟩ Kx) [Cx]) vf)
inductive Dem (P:Program) (H:Nat→Option Nat) (b:Frame) (Q:Array Value→World→Prop):Cfg→World→Prop
 |done {tm:Array Value} {v:World}:Q tm v→Dem P H b Q (.run [] tm []) v
 |step {c:Cfg} {v:World} (c':Nat→Cfg) (v':Nat→World)
  (h:∀d w,Vis H w v→w.tape=v.tape→∃w',Vis H w' (v' d)∧Hs H w w'∧w'.tape=w.tape∧∀main ds K C,∃es,(∀e∈es,EvOk H w'.heap.size e)∧stepG P main (c.gor b ds K C) (w.at d)=.go ((c' d).gor b ds K C) w' es)
  (hz:∀d,v.heap.size≤(v' d).heap.size) (ht:∀d,(v' d).tape=v.tape) (hn:∀d,nview (v' d).heap) (hd:∀d,Dem P H b Q (c' d) (v' d)):Dem P H b Q c v
theorem Dem.of {Q:Array Value→World→Prop} {c:Cfg} {v:World} (h:∀d,∃(c':Cfg) (v':World),(∀w,Vis H w v→w.tape=v.tape→∃w',Vis H w' v'∧Hs H w w'∧w'.tape=w.tape∧
 ∀main ds K C,∃es,(∀e∈es,EvOk H w'.heap.size e)∧stepG P main (c.gor b ds K C) (w.at d)=.go (c'.gor b ds K C) w' es)∧v.heap.size≤v'.heap.size∧v'.tape=v.tape∧nview v'.heap∧Dem P H b Q c' v'):Dem P H b Q c v:=by
 have h1:=fun d=>Classical.choose_spec (h d)
 have h2:=fun d=>Classical.choose_spec (h1 d)
 exact .step (fun d=>Classical.choose (h d)) (fun d=>Classical.choose (h1 d)) (fun d=>(h2 d).1) (fun d=>(h2 d).2.1) (fun d=>(h2 d).2.2.1) (fun d=>(h2 d).2.2.2.1) (fun d=>(h2 d).2.2.2.2)
theorem Vis.at {w v:World} (h:Vis H w v) (d:Nat):Vis H (w.at d) (v.at d):=⟨h.heap,h.os,h.output,h.kinds⟩
structure Lost (ρ:Bool) (P:Program) (L:Nat→Bool) (M:String→Bool) (H:Nat→Option Nat) (b:Frame) (Q:Array Value→World→Prop) where
 c:Cfg
 v:World
 plain:c.Plain ρ P L M
 nv:nview v.heap
 size:∀r n,H r=some n→r<v.heap.size
 lost:¬Dem P H b (fun tm v'=> ∃v'',Same v'' v'∧Q tm v'') c v
def LostStep (P:Program) (b:Frame) {ρ:Bool} {L:Nat→Bool} {M:String→Bool} {H:Nat→Option Nat} {Q:Array Value→World→Prop} (s:Lost ρ P L M H b Q) (d k:Nat) (s':Lost ρ P L M H b Q):Prop:=
 (∃tm,s.c=.run [] tm []∧∀v',Same v' s.v→¬Q tm v')∨
 ((∀tm,s.c≠.run [] tm [])∧∀u,Same u s.v→Ans (s.v.at d) u k→
  BadG b [] Kx [Cx] (stepG P true (s.c.gor b [] Kx [Cx]) u)∨
  ∃u' es,Same u' s'.v∧u'.tape=u.tape∧u'.drawn=u.drawn+k∧stepG P true (s.c.gor b [] Kx [Cx]) u=.go (s'.c.gor b [] Kx [Cx]) u' es)
theorem lost_step (T:Texts P L M) (hk:b.kind≠.early) (hρ:ρ=true→b.kind=.normal) {Q:Array Value→World→Prop} (s:Lost ρ P L M H b Q):∃d k s',LostStep P b s d k s':=by
 by_cases ht:∃tm,s.c=.run [] tm []
 ·obtain⟨tm,e⟩:=ht
  exact⟨0,0,s,.inl ⟨tm,e,fun v' hv hq=>s.lost (by rw[e];exact .done ⟨v',hv,hq⟩)⟩⟩
 have hne:∀tm,s.c≠.run [] tm []:=fun tm e=>ht ⟨tm,e⟩
 have hl:¬ ∀d,∃(c':Cfg) (v':World),(∀w,Vis H w s.v→w.tape=s.v.tape→∃w',Vis H w' v'∧Hs H w w'∧w'.tape=w.tape∧
  ∀main ds K C,∃es,(∀e∈es,EvOk H w'.heap.size e)∧stepG P main (s.c.gor b ds K C) (w.at d)=.go (c'.gor b ds K C) w' es)∧s.v.heap.size≤v'.heap.size∧v'.tape=s.v.tape∧nview v'.heap∧
  Dem P H b (fun tm v'=> ∃v'',Same v'' v'∧Q tm v'') c' v':=fun h=>s.lost (.of h)
 obtain⟨d,hd⟩:=Classical.not_forall.1 hl
 rcases cfg_step T hk hρ s.plain hne (v:=s.v.at d) s.nv with⟨k,hbad⟩|⟨c',v',k,hp,hvs,F⟩
 ·exact⟨d,k,s,.inr ⟨hne,fun u hs ha=> .inl (hbad u ⟨hs.heap,hs.os,hs.output⟩ ha true [] Kx [Cx])⟩⟩
 ·let s':Lost ρ P L M H b Q:=⟨c',v',hp,hvs.nv,fun r n e=>Nat.lt_of_lt_of_le (s.size r n e) hvs.size,
   fun hdem=>hd ⟨c',v',fun w hv ht=>by
    obtain⟨w',h1,h2⟩:=F H s.size (w.at d) (hv.at d) (fun t q _=>by show w.tape _ _=s.v.tape _ _;rw[ht];rfl)
    exact⟨w',h1.vis,h1.hs,h1.tape,h2⟩,hvs.size,hvs.tape,hvs.nv,hdem⟩⟩
  refine⟨d,k,s',.inr ⟨hne,fun u hs ha=> .inr ?_⟩⟩
  obtain⟨u',g1,g2⟩:=F (fun _=>none) (fun _ _ e=>by cases e) u (Same.vis ⟨hs.heap,hs.os,hs.output⟩) ha
  obtain⟨es,_,g3⟩:=g2 true [] Kx [Cx]
  have hsame:=g1.vis.same
  exact⟨u',es,⟨hsame.heap,hsame.os,hsame.output⟩,g1.tape,g1.drawn,g3⟩
theorem tape_of (e k:Nat→Nat) (he:∀i,e (i+1)=e i+k i) (f:Nat→Nat→Question→Nat):∃τ:Nat→Question→Nat,∀i t q,t<k i→τ (e i+t) q=f i t q:=by
 classical
 have mono:∀i j,i≤j→e i≤e j:=by
  intro i j h
  induction h with
  |refl=>exact Nat.le_refl _
  |step _ ih=>rw[he];omega
 have uniq:∀i j x,e i≤x→x<e (i+1)→e j≤x→x<e (j+1)→i=j:=by
  intro i j x h1 h2 h3 h4
  rcases Nat.lt_trichotomy i j with h|h|h
  ·have:=mono (i+1) j h;omega
  ·exact h
  ·have:=mono (j+1) i h;omega
 refine⟨fun x q=>if h:∃i,e i≤x∧x<e (i+1) then f (Classical.choose h) (x-e (Classical.choose h)) q else 0,fun i t q ht=> ?_⟩
 have hex:∃j,e j≤e i+t∧e i+t<e (j+1):=⟨i,by omega,by rw[he];omega⟩
 simp only[dif_pos hex]
 have hc:=Classical.choose_spec hex
 have:Classical.choose hex=i:=uniq _ _ _ hc.1 hc.2 (by omega) (by rw[he];omega)
 rw[this]
 congr 1
 omega
theorem assemble (T:Texts P L M) (hk:b.kind≠.early) (hρ:ρ=true→b.kind=.normal) {Q:Array Value→World→Prop} {c:Cfg} {v:World} (hp:c.Plain ρ P L M) (hn:nview v.heap)
 (hH:∀r n,H r=some n→r<v.heap.size) (hlone:∀u,Same u v→∃n tm vf,LoneRun P b c u n tm vf∧Q tm vf):Dem P H b (fun tm v'=> ∃v'',Same v'' v'∧Q tm v'') c v:=by
 classical
 refine Classical.byContradiction fun hlost=> ?_
 let s0:Lost ρ P L M H b Q:=⟨c,v,hp,hn,hH,hlost⟩
 have hstep:=fun s:Lost ρ P L M H b Q=>lost_step T hk hρ s
 let dd:=fun s=>Classical.choose (hstep s)
 have h1:=fun s=>Classical.choose_spec (hstep s)
 let kk:=fun s=>Classical.choose (h1 s)
 have h2:=fun s=>Classical.choose_spec (h1 s)
 let nx:=fun s=>Classical.choose (h2 s)
 have h3:∀s,LostStep P b s (dd s) (kk s) (nx s):=fun s=>Classical.choose_spec (h2 s)
 let sq:Nat→Lost ρ P L M H b Q:=fun i=>Nat.rec s0 (fun _ s=>nx s) i
 have hsq:∀i,sq (i+1)=nx (sq i):=fun _=>rfl
 let e:Nat→Nat:=fun i=>Nat.rec 0 (fun j x=>x+kk (sq j)) i
 have he:∀i,e (i+1)=e i+kk (sq i):=fun _=>rfl
 obtain⟨τ,hτ⟩:=tape_of e (fun i=>kk (sq i)) he (fun i t q=>(sq i).v.tape (dd (sq i)+t) q)
 have key:∀n i u tm vf,Same u (sq i).v→u.tape=τ→u.drawn=e i→LoneRun P b (sq i).c u n tm vf→Q tm vf→False:=by
  intro n
  induction n with
  |zero=>
   intro i u tm vf hs ht hd hr hq
   simp only[LoneRun,runN,Stepped.next.injEq] at hr
   obtain⟨g1,rfl⟩:=loneG_inj hr
   have hc:=gor_inj g1
   rcases h3 (sq i) with⟨tm',e1,h4⟩|⟨hne,_⟩
   ·rw[hc] at e1
    simp only[Cfg.run.injEq,true_and,and_true] at e1
    subst e1
    exact h4 u hs hq
   ·exact hne tm hc
  |succ n ih=>
   intro i u tm vf hs ht hd hr hq
   rcases h3 (sq i) with⟨tm',e1,_⟩|⟨hne,hst⟩
   ·have hend:∃o,stepG P true ((sq i).c.gor b [] Kx [Cx]) u=.ended o u:=by
     rw[e1]
     exact⟨_,by simp[Cfg.gor,G,stepG,stepG.exec,Frame.at,Kx];rfl⟩
    obtain⟨o,hend⟩:=hend
    obtain⟨fr,cs,hg⟩:=(sq i).c.split b [] Kx [Cx]
    unfold LoneRun at hr
    rw[hg] at hend hr
    simp only[runN,loneG_ended hend] at hr
    simp at hr
   ·have ha:Ans ((sq i).v.at (dd (sq i))) u (kk (sq i)):=fun t q hlt=>by
     rw[ht,hd]
     exact hτ i t q hlt
    obtain⟨fr,cs,hg⟩:=(sq i).c.split b [] Kx [Cx]
    unfold LoneRun at hr
    rcases hst u hs ha with(⟨o,u',es,hb⟩|⟨top,tms,t,ch,u',es,hb⟩|⟨hbn,tms,t,u',es,hb⟩)|⟨u',es,g1,g2,g3,g4⟩
    ·rw[hg] at hb hr
     simp only[runN,loneG_ended hb] at hr
     simp at hr
    ·have hst':step P (loneG ((sq i).c.gor b [] Kx [Cx]) u)=.next (loneG (pans b top tms t ch) u'):=by
      rw[hg] at hb⊢
      cases top<;>exact loneG_go hb
     simp only[runN,hst'] at hr
     obtain⟨g,e2,ch',e3⟩:=pans_dead top tms t ch u' n _ hr
     simp only[loneG,Array.mk.injEq,List.cons.injEq,and_true] at e2
     rw[←e2] at e3
     simp[G,Frame.at] at e3
    ·have hst':step P (loneG ((sq i).c.gor b [] Kx [Cx]) u)=.next (loneG (G {b.at ⟨tms,[]⟩ (t++Kx) with mode:=.returning} [Cx]) u'):=by
      rw[hg] at hb⊢
      exact loneG_go hb
     simp only[runN,hst'] at hr
     exact ret_dead hbn tms t u' n tm vf hr
    ·have hst':step P (loneG ((sq i).c.gor b [] Kx [Cx]) u)=.next (loneG ((sq (i+1)).c.gor b [] Kx [Cx]) u'):=by
      obtain⟨fr',cs',hg'⟩:=(nx (sq i)).c.split b [] Kx [Cx]
      rw[hsq,hg']
      rw[hg] at g4⊢
      rw[hg'] at g4
      exact loneG_go g4
     simp only[runN,hst'] at hr
     exact ih (i+1) u' tm vf g1 (g2.trans ht) (by rw[g3,hd,he]) hr hq
 obtain⟨n,tm,vf,hr,hq⟩:=hlone {v with tape:=τ,drawn:=0} ⟨rfl,rfl,rfl⟩
 exact key n 0 {v with tape:=τ,drawn:=0} tm vf ⟨rfl,rfl,rfl⟩ rfl rfl hr hq
end
end Co
end Go.Proofs.Ytlngbdggehghgaa

namespace Go.Proofs.Ytlngbdggehghgaa
set_option linter.unusedSimpArgs false
set_option linter.unusedVariables false
namespace Co
open Go.Conc
def wgc (H:Nat→Option Nat) (l:Loc):Prop:=∃a,l=.cell a∧H a.block=some 5∧5≤a.off
def Fine (H:Nat→Option Nat) (Still:Loc→Prop) (op:MemOp):Prop:=
 ∀x,op.act.touch?=some x→(∃a,x.loc=.cell a∧∀n,H a.block=some n→a.off<n)∨(∃r,x.loc=.obj r)∨Still x.loc
structure Er (H:Nat→Option Nat) (T:Trace) (i:Nat) (op op0:MemOp):Prop where
 g:op0.g=op.g
 act:(op0.act=op.act∧∀x,op.act.touch?=some x→¬wgc H x.loc)∨
  (op0.act=.mark .noRoom∧∃x,op.act.touch?=some x∧wgc H x.loc∧((op.g=0∧x.kind≠.plain)∨(x.kind=.atomic∧T.deaf op.g i≠0)))
structure Tr (H:Nat→Option Nat) (T T0:Trace):Prop where
 size:T0.size=T.size
 each:∀i op op0,T[i]?=some op→T0[i]?=some op0→Er H T i op op0
section
variable {H:Nat→Option Nat} {T T0 U U0:Trace}
theorem Tr.nil:Tr H #[] #[]:=⟨rfl,fun i op op0 h=>by simp at h⟩
theorem Er.old {i:Nat} {op op0:MemOp} (h:Er H T i op op0) (hi:i≤T.size):Er H (T++U) i op op0:=
 ⟨h.g,h.act.imp id fun⟨e,x,h1,h2,h3⟩=>⟨e,x,h1,h2,h3.imp id fun⟨k,d⟩=>⟨k,by rw[deaf_old hi];exact d⟩⟩⟩
theorem Tr.app (h:Tr H T T0) (hs:U0.size=U.size) (hu:∀k op op0,U[k]?=some op→U0[k]?=some op0→Er H (T++U) (T.size+k) op op0):Tr H (T++U) (T0++U0):=by
 refine⟨by simp[h.size,hs],fun i op op0 h1 h2=> ?_⟩
 by_cases hi:i<T.size
 ·rw[getElem?_append_old hi] at h1
  rw[getElem?_append_old (by rw[h.size];exact hi)] at h2
  exact(h.each i op op0 h1 h2).old (Nat.le_of_lt hi)
 ·rw[Array.getElem?_append_right (by omega)] at h1
  rw[Array.getElem?_append_right (by rw[h.size];omega),h.size] at h2
  have:=hu (i-T.size) op op0 h1 h2
  rwa[show T.size+(i-T.size)=i by omega] at this
theorem Tr.plain (h:Tr H T T0) (hu:∀op∈U,∀x,op.act.touch?=some x→¬wgc H x.loc):Tr H (T++U) (T0++U):=
 h.app rfl fun k op op0 h1 h2=>by
  rw[h1] at h2
  obtain rfl:=Option.some.inj h2
  exact⟨rfl,.inl ⟨rfl,hu op (Array.mem_of_getElem? h1)⟩⟩
theorem Fine.not_wg {Still:Loc→Prop} (hS:∀l,Still l→¬wgc H l) {op:MemOp} (hf:Fine H Still op):∀x,op.act.touch?=some x→¬wgc H x.loc:=by
 intro x hx
 rcases hf x hx with⟨a,e,ha⟩|⟨r,e⟩|hs
 ·rintro⟨b,e',h1,h2⟩
  rw[e] at e'
  cases e'
  have:=ha 5 h1
  omega
 ·rintro⟨b,e',_⟩
  rw[e] at e'
  cases e'
 ·exact hS _ hs
theorem Tr.fine {Still:Loc→Prop} (hS:∀l,Still l→¬wgc H l) (h:Tr H T T0) (hu:∀op∈U,Fine H Still op):Tr H (T++U) (T0++U):=h.plain fun op hop=>(hu op hop).not_wg hS
theorem deafStep_touch {op:MemOp} {x:Touch} (h:op.act.touch?=some x) (g d:Nat):deafStep g d op=d:=by
 obtain⟨a,fn,pos,act⟩:=op
 cases act with
 |mark m=>cases m<;>simp_all [MemAct.touch?,deafStep]
 |_=>rfl
theorem deafStep_act {op op':MemOp} (h1:op'.g=op.g) (h2:op'.act=op.act) (g d:Nat):deafStep g d op'=deafStep g d op:=by
 unfold deafStep
 rw[h1,h2]
theorem deafStep_mute {op:MemOp} (h:op.act=.mark .noRoom) (g d:Nat):deafStep g d op=d:=by
 unfold deafStep
 rw[h]
theorem Tr.deaf (h:Tr H T T0) (g:Nat):∀i,i≤T.size→T0.deaf g i=T.deaf g i
 |0,_=>rfl
 |i+1,hi=>by
  have h1:T[i]?=some T[i]:=Array.getElem?_eq_getElem (by omega)
  have h2:T0[i]?=some (T0[i]'(by rw[h.size];omega)):=Array.getElem?_eq_getElem (by rw[h.size];omega)
  rw[deaf_succ h1,deaf_succ h2,h.deaf g i (by omega)]
  have e:=h.each i _ _ h1 h2
  rcases e.act with⟨e1,_⟩|⟨e1,x,e2,_⟩
  ·exact deafStep_act e.g e1 g _
  ·rw[deafStep_mute e1,deafStep_touch e2]
theorem Tr.deafAll (h:Tr H T T0) (g:Nat):Deaf T0 g=Deaf T g:=by
 unfold Deaf
 rw[h.size]
 exact h.deaf g _ (Nat.le_refl _)
theorem Tr.get (h:Tr H T T0) {i:Nat} {op0:MemOp} (h0:T0[i]?=some op0):∃op,T[i]?=some op∧Er H T i op op0:=by
 have hi:i<T.size:=by have:=lt_size_of_getElem? h0;rw[h.size] at this;exact this
 exact⟨T[i],Array.getElem?_eq_getElem hi,h.each i _ _ (Array.getElem?_eq_getElem hi) h0⟩
theorem Tr.get' (h:Tr H T T0) {i:Nat} {op:MemOp} (h0:T[i]?=some op):∃op0,T0[i]?=some op0∧Er H T i op op0:=by
 have hi:i<T0.size:=by have:=lt_size_of_getElem? h0;rw[h.size];exact this
 exact⟨T0[i],Array.getElem?_eq_getElem hi,h.each i _ _ h0 (Array.getElem?_eq_getElem hi)⟩
theorem act?_get {t:Trace} {i:Nat} {a:MemAct} (h:t.act? i=some a):∃op,t[i]?=some op∧op.act=a:=by
 unfold Trace.act? at h
 cases e:t[i]? with
 |none=>rw[e] at h;cases h
 |some op=>rw[e] at h;exact⟨op,rfl,by simpa using h⟩
theorem Tr.act (h:Tr H T T0) {i:Nat} {a:MemAct} (h0:T0.act? i=some a) (hn:a≠.mark .noRoom):T.act? i=some a∧∀x,a.touch?=some x→¬wgc H x.loc:=by
 obtain⟨op0,e0,rfl⟩:=act?_get h0
 obtain⟨op,e,he⟩:=h.get e0
 rcases he.act with⟨h1,h2⟩|⟨h1,_⟩
 ·rw[h1]
  exact⟨by simp[Trace.act?,e],h2⟩
 ·exact absurd h1 hn
theorem Tr.g? (h:Tr H T T0) (i:Nat):T0.g? i=T.g? i:=by
 unfold Trace.g?
 cases e:T[i]? with
 |none=>
  have:¬i<T.size:=by simpa[Array.getElem?_eq_none_iff] using e
  rw[Array.getElem?_eq_none (by rw[h.size];omega)]
 |some op=>
  obtain⟨op0,e0,he⟩:=h.get' e
  rw[e0]
  simp[he.g]
theorem Tr.heard (h:Tr H T T0) {i:Nat} (h0:T0.heard i):T.heard i:=by
 obtain⟨g,h1,h2⟩:=h0
 rw[h.g?] at h1
 have hi:i≤T.size:=by
  unfold Trace.g? at h1
  cases e:T[i]? with
  |none=>rw[e] at h1;cases h1
  |some op=>exact Nat.le_of_lt (lt_size_of_getElem? e)
 exact⟨g,h1,by rw[←h.deaf g i hi];exact h2⟩
theorem Tr.noWrite (h:Tr H T T0) {a:Addr} (ha:¬wgc H (.cell a)) {k:Nat} {s:Bool} (hk:T0.act? k≠some (.access ⟨.cell a,true,s⟩)):T.act? k≠some (.access ⟨.cell a,true,s⟩):=by
 intro e
 obtain⟨op,e1,e2⟩:=act?_get e
 obtain⟨op0,e0,he⟩:=h.get' e1
 rcases he.act with⟨h1,_⟩|⟨_,x,h2,h3,_⟩
 ·exact hk (by simp[Trace.act?,e0,h1,e2])
 ·rw[e2] at h2
  simp only[MemAct.touch?,Option.some.injEq] at h2
  subst h2
  exact ha h3
theorem Tr.noRel (h:Tr H T T0) {a:Addr} {k:Nat} (hk:T0.act? k≠some (.mark (.release a))):T.act? k≠some (.mark (.release a)):=by
 intro e
 obtain⟨op,e1,e2⟩:=act?_get e
 obtain⟨op0,e0,he⟩:=h.get' e1
 rcases he.act with⟨h1,_⟩|⟨_,x,h2,_⟩
 ·exact hk (by simp[Trace.act?,e0,h1,e2])
 ·rw[e2] at h2
  simp[MemAct.touch?] at h2
theorem Tr.notices (h:Tr H T T0) {i j:Nat} (hn:Notices T0 i j):Notices T i j:=by
 cases hn with
 |atomic hij h1 h2 h3=>
  obtain⟨k1,k2⟩:=h.act h1 (by simp)
  exact .atomic hij k1 (h.act h2 (by simp)).1 fun k s hk hkj=>h.noWrite (k2 _ rfl) (h3 k s hk hkj)
 |spawn h1 h2 h3=>exact .spawn (h.act h1 (by simp)).1 (h.act h2 (by simp)).1 (by rw[←h.g?];exact h3)
 |handOver h1 h2=>exact .handOver (h.act h1 (by simp)).1 (h.act h2 (by simp)).1
 |room h1 h2=>exact .room (h.act h1 (by simp)).1 (h.act h2 (by simp)).1
 |closed h1 h2=>exact .closed (h.act h1 (by simp)).1 (h.act h2 (by simp)).1
 |marked hij h1 h2 h3=>exact .marked hij (h1.imp (fun e=>(h.act e (by simp)).1) fun e=>(h.act e (by simp)).1) (h.act h2 (by simp)).1 fun k hk hkj=>h.noRel (h3 k hk hkj)
theorem Tr.hb (h:Tr H T T0) {i j:Nat} (hb:HappensBefore T0 i j):HappensBefore T i j:=by
 have hs:∀x y,(ProgramOrder T0 x y∨(Notices T0 x y∧T0.heard x∧T0.heard y))→(ProgramOrder T x y∨(Notices T x y∧T.heard x∧T.heard y)):=fun x y hxy=>
  hxy.imp (fun⟨k,g,h1,h2⟩=>⟨k,g,by rw[←h.g?];exact h1,by rw[←h.g?];exact h2⟩) fun⟨k1,k2,k3⟩=>⟨h.notices k1,h.heard k2,h.heard k3⟩
 unfold HappensBefore at hb⊢
 induction hb with
 |single e=>exact .single (hs _ _ e)
 |tail _ e ih=>exact .tail ih (hs _ _ e)
theorem Tr.touch (h:Tr H T T0) {i:Nat} {x:Touch} (hx:touchAt T i=some x):(touchAt T0 i=some x∧¬wgc H x.loc)∨(wgc H x.loc∧∃g,T.g? i=some g∧((g=0∧x.kind≠.plain)∨(x.kind=.atomic∧T.deaf g i≠0))):=by
 unfold touchAt at hx
 cases e:T.act? i with
 |none=>rw[e] at hx;cases hx
 |some a=>
  rw[e] at hx
  obtain⟨op,e1,rfl⟩:=act?_get e
  obtain⟨op0,e0,he⟩:=h.get' e1
  rcases he.act with⟨h1,h2⟩|⟨_,y,h2,h3,h4⟩
  ·refine .inl ⟨?_,h2 x hx⟩
   rw[touchAt_of e0,h1]
   exact hx
  ·rw[show op.act.touch?=some x from hx] at h2
   obtain rfl:=Option.some.inj h2
   exact .inr ⟨h3,op.g,by simp[Trace.g?,e1],h4⟩
theorem Tr.race (h:Tr H T T0) {said:Bool} (hr:¬Race said T0):¬Race said T:=by
 rintro⟨i,j,hij,⟨a,b,ha,hb,hc⟩,n1,n2⟩
 have ha':touchAt T i=some a:=ha
 have hb':touchAt T j=some b:=hb
 rcases h.touch ha' with⟨a0,aw⟩|⟨aw,g,ag,ak⟩
 ·rcases h.touch hb' with⟨b0,_⟩|⟨bw,_⟩
  ·exact hr ⟨i,j,hij,⟨a,b,a0,b0,hc⟩,fun e=>n1 (h.hb e),fun e=>n2 (h.hb e)⟩
  ·exact aw (by rw[hc.1];exact bw)
 ·rcases h.touch hb' with⟨_,bw⟩|⟨_,g',bg,bk⟩
  ·exact bw (by rw[←hc.1];exact aw)
  ·rcases hc.2.2.2 with e|e|⟨_,e1,e2⟩
   ·rcases ak with⟨_,k⟩|⟨k,_⟩
    ·exact k e
    ·rw[e] at k;cases k
   ·rcases bk with⟨_,k⟩|⟨k,_⟩
    ·exact k e
    ·rw[e] at k;cases k
   ·rcases ak with⟨k1,_⟩|⟨k,_⟩
    ·rcases bk with⟨k2,_⟩|⟨k,_⟩
     ·subst k1
      subst k2
      exact n1 (Relation.TransGen.single (.inl ⟨hij,0,ag,bg⟩))
     ·rw[e2] at k;cases k
    ·rw[e1] at k;cases k
theorem Tr.handedOver (h:Tr H T T0) (h0:T0.HandedOver):T.HandedOver:=by
 rintro i g hg hn ⟨x,h1,h2,h3⟩
 rcases h.touch (show touchAt T i=some x from h1) with⟨e,_⟩|⟨_,g',hg',hk⟩
 ·obtain⟨j,hj,hb⟩:=h0 i g (by rw[h.g?];exact hg) hn ⟨x,e,h2,h3.imp id fun hh=>by
   obtain⟨g2,e1,e2⟩:=hh
   refine⟨g2,by rw[h.g?];exact e1, ?_⟩
   rw[h.deaf g2 i ?_]
   ·exact e2
   ·unfold Trace.g? at e1
    cases e3:T[i]? with
    |none=>rw[e3] at e1;cases e1
    |some op=>exact Nat.le_of_lt (lt_size_of_getElem? e3)⟩
  exact⟨j,by rw[←h.g?];exact hj,h.hb hb⟩
 ·rw[hg] at hg'
  obtain rfl:=Option.some.inj hg'
  rcases hk with⟨e,_⟩|⟨k,d⟩
  ·exact absurd e hn
  ·rcases h3 with h3|⟨g2,e1,e2⟩
   ·exact absurd k h3
   ·rw[hg] at e1
    obtain rfl:=Option.some.inj e1
    exact absurd e2 d
theorem Tr.mono {H':Nat→Option Nat} {B:Nat} (h:Tr H T T0) (hsub:∀r,H r=some 5→H' r=some 5) (hnew:∀r,H' r=some 5→H r=some 5∨B≤r) (hl:∀op∈T0,op.act.low B):Tr H' T T0:=by
 refine⟨h.size,fun i op op0 h1 h2=> ?_⟩
 have he:=h.each i op op0 h1 h2
 refine⟨he.g,he.act.imp (fun⟨e,hn⟩=>⟨e,fun x hx=> ?_⟩) fun⟨e,x,k1,⟨a,k2,k3,k4⟩,k5⟩=>⟨e,x,k1,⟨a,k2,hsub _ k3,k4⟩,k5⟩⟩
 rintro⟨a,e1,e2,e3⟩
 rcases hnew _ e2 with e4|e4
 ·exact hn x hx ⟨a,e1,e4,e3⟩
 ·have hlow:=hl op0 (Array.mem_of_getElem? h2)
  rw[e] at hlow
  cases hact:op.act with
  |access ev=>
   rw[hact] at hx hlow
   simp only[MemAct.touch?,Option.some.injEq] at hx
   subst hx
   simp only[MemAct.low] at hlow
   simp only at e1
   rw[e1] at hlow
   simp only[Loc.low] at hlow
   omega
  |mark m=>
   rw[hact] at hx hlow
   cases m<;>simp only[MemAct.touch?,Option.some.injEq,reduceCtorEq] at hx<;>(subst hx;simp only[Loc.cell.injEq] at e1;subst e1;simp only[MemAct.low] at hlow;omega)
  |_=>rw[hact] at hx;simp[MemAct.touch?] at hx
end
end Co
end Go.Proofs.Ytlngbdggehghgaa

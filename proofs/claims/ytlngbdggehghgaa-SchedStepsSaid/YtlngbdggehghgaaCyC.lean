/-
  A world of the document, as a scheduler's world of tasks. Conditions: as each theorem says.
-/
import Derived.Test.YtlngbdggehghgaaCxX
import Derived.Test.YtlngbdggehghgaaScL
namespace Go.Proofs.Ytlngbdggehghgaa
set_option linter.unusedSimpArgs false
set_option linter.unusedVariables false
open Go.RowKit
theorem Sl.chgE {α:Type} {R:Rep α} (hR:R.flat) {F:Nat→Prop} {w w':World} {v:Value} {xs:List α} (h:Sl R w v xs) (c:Chg F w w') (hv:xs≠[]→∀k,v.ownBlock=some k→¬F k):Sl R w' v xs:=by
 by_cases hx:xs=[]
 ·subst hx
  obtain⟨A,c',rfl,hc,hm,h⟩:=h
  refine⟨A,c',rfl,hc,hm, ?_⟩
  rcases h with h|⟨b,off,rfl,hb,_⟩
  ·exact .inl h
  ·exact .inr ⟨b,off,rfl,Nat.lt_of_lt_of_le hb c.size,fun i x hi=>by cases hi⟩
 ·exact h.chg hR c (hv hx)
theorem Sl.far {α:Type} {R:Rep α} {w:World} {v:Value} {xs:List α} (h:Sl R w v xs) (hx:xs≠[]):∀k,v.ownBlock=some k→k<w.heap.size:=by
 obtain⟨A,c',rfl,hc,hm,h⟩:=h
 rcases h with h|⟨b,off,rfl,hb,_⟩
 ·exact absurd (List.length_eq_zero_iff.1 h.1) hx
 ·intro k hk
  have hk:b=k:=by simpa[Value.ownBlock] using hk
  subst hk
  exact hb
def KindsAt (v0:World) (kv:Value) (ks:List (List De)):Prop:=
 ∃kb ko kc,kv=.slice (some ⟨kb,ko,none⟩) ks.length kc∧kb<v0.heap.size∧∀(m:Nat) (l:List De),ks[m]?=some l→∃lv,v0.cell? ⟨kb,ko+m,none⟩=some lv∧Sl deR v0 lv l∧(l≠[]→∀k,lv.ownBlock=some k→k<v0.heap.size)∧l.length≤1000
structure KOk (ks:List (List De)) (n:Nat) (r:Ru):Prop where
 obj:0≤r.wait.obj
 k0:0≤r.task.kind
 k1:r.task.kind<ks.length
 p0:0≤r.task.pc
 p1:r.task.pc≤n
def DW (v0:World) (b:Nat) (kv:Value) (ks:List (List De)):Wd where
 o:=some b
 mem:=fun x F w=> ∃gv rv wv nv,WX v0.heap.size b kv x.flags gv rv wv nv gv rv wv nv x.given x.ret x.waits x.begun w∧Co.Kp v0.heap.size v0 w∧∀k,F k↔WBf b gv rv wv nv k∨k<v0.heap.size
 st:=stW
 inv:=fun x S=>x.kinds=ks∧x.given.length=S.turns.length∧x.ret.length=S.turns.length∧x.waits.length=S.turns.length∧x.begun.length=S.turns.length∧∀r∈S.rs,KOk ks S.turns.length r
theorem WBf.old {B b:Nat} {kv:Value} {fs:List Bool} {c9 c10 c11 c12 gv rv wv nv:Value} {gl rl:List Tk} {wl:List Wa} {nl:List Int} {w:World} (h:WX B b kv fs c9 c10 c11 c12 gv rv wv nv gl rl wl nl w) {k:Nat} (hk:WBf b gv rv wv nv k):B≤k:=by
 rcases hk with rfl|e|e|e|e
 ·exact h.bB
 ·exact(h.g.lt k e).1
 ·exact(h.r.lt k e).1
 ·exact(h.wt.lt k e).1
 ·exact(h.n.lt k e).1
theorem begS_alls {p:Ru→Prop} (l:List Tk):∀S:SS,(∀n,∀t∈l,p (newR n t))→(∀r∈S.rs,p r)→∀r∈(begS S l).rs,p r:=by
 induction l with
 |nil=>exact fun S _ h=>h
 |cons t l ih=>
  intro S hp h
  rw[Co.begS_cons]
  refine ih _ (fun n t ht=>hp n t (List.mem_cons_of_mem _ ht)) ?_
  split
  ·intro r hr
   rcases List.mem_append.1 hr with hr|hr
   ·exact h r hr
   ·obtain rfl:=List.mem_singleton.1 hr
    exact hp _ t List.mem_cons_self
  ·exact h
theorem KOk.up {ks:List (List De)} {n m:Nat} {r:Ru} (h:KOk ks n r) (hn:n≤m):KOk ks m r:=⟨h.obj,h.k0,h.k1,h.p0,by have:=h.p1;omega⟩
theorem waitS_obj {d:De} (hd:d.Ok):0≤(waitS d).obj:=by
 obtain⟨_,⟨b1,_⟩,_,_⟩:=hd
 unfold waitS
 repeat' split
 all_goals simp
 all_goals omega
def DeedsOk (ks:List (List De)):Prop:=∀l∈ks,∀d∈l,d.Ok
theorem deedAt_ok {ks:List (List De)} (h:DeedsOk ks) {t:Tk} {d:De} (hd:deedAt ks t=some d):d.Ok:=by
 unfold deedAt at hd
 cases hk:ks[t.kind.toNat]? with
 |none=>rw[hk] at hd;simp at hd
 |some l=>
  rw[hk] at hd
  exact h l (List.mem_of_getElem? hk) d (List.mem_of_getElem? hd)
theorem waW_obj {x:RW} (h:DeedsOk x.kinds) (t:Tk):0≤(waW x t).obj:=by
 unfold waW
 cases hd:deedAt x.kinds t with
 |none=>exact Int.le_refl _
 |some d=>exact waitS_obj (deedAt_ok h hd)
theorem beW_kinds {x:RW} {t:Tk} {n:Nat} {i:Nat}:∀t'∈beW x t,KOk x.kinds n (newR i t'):=by
 intro t' ht
 unfold beW at ht
 cases hd:deedAt x.kinds t with
 |none=>rw[hd] at ht;simp at ht
 |some d=>
  rw[hd] at ht
  unfold begW at ht
  simp only at ht
  split at ht
  ·rename_i hq
   obtain rfl:=List.mem_singleton.1 ht
   exact⟨Int.le_refl _,hq.1,hq.2,Int.le_refl _,Int.natCast_nonneg _⟩
  ·simp at ht
namespace Co
open Go.Conc
theorem DW_ok {v0:World} {b:Nat} {kv:Value} {ks:List (List De)} (hK:KindsAt v0 kv ks) (hD:DeedsOk ks) (hkn:ks.length≤100000):Wd.Ok (DW v0 b kv ks) where
 keep:=fun {x F G w w'} h c hd=>by
  obtain⟨gv,rv,wv,nv,h1,h2,h3⟩:=h
  exact⟨gv,rv,wv,nv,h1.chg c (fun k hk=>hd k ((h3 k).2 (.inl hk))),h2.up c (fun k hk=>Nat.le_of_not_lt fun e=>hd k ((h3 k).2 (.inr e)) hk),h3⟩
 lt:=fun {x F w} h k hk=>by
  obtain⟨gv,rv,wv,nv,h1,h2,h3⟩:=h
  rcases(h3 k).1 hk with e|e
  ·exact h1.lt e
  ·exact Nat.lt_of_lt_of_le e h2.le
 en:=fun {x F w} h W hW t q hq=>by
  obtain⟨gv,rv,wv,nv,h1,_,_⟩:=h
  exact enabled_any2 x.flags h1.fl (h1.box.chg (F:=fun _=>False) (.of_below hW) id) t q hq
 obj:=fun {x S} h r hr=>(h.2.2.2.2.2 r hr).obj
 step:=fun {x F w S i r} hm hi hS hr ht=>by
  obtain⟨gv,rv,wv,nv,h1,h2,h3⟩:=hm
  obtain⟨rfl,g1,g2,g3,g4,g5⟩:=hi
  obtain⟨o1,k0,k1,p0,p1⟩:=g5 r (List.mem_of_getElem? hr)
  have hmost:=hS.most
  obtain⟨kb,ko,kc,rfl,hkb,hks⟩:=hK
  obtain⟨⟨ti,kind,pc,ta,tb,tc,td⟩,wt,age⟩:=r
  simp only at k0 k1 p0 p1
  obtain⟨m,rfl⟩:∃m:Nat,kind=(m:Int):=⟨kind.toNat,by omega⟩
  obtain⟨p,rfl⟩:∃p:Nat,pc=(p:Int):=⟨pc.toNat,by omega⟩
  have hml:m<x.kinds.length:=by omega
  obtain⟨lv,hlv,hls,hlb,hll⟩:=hks m _ (List.getElem?_eq_getElem hml)
  have old:∀k,k<v0.heap.size→¬WBf b gv rv wv nv k:=fun k hk e=>by have:=WBf.old h1 e;omega
  have kc2:Chg (fun k=>v0.heap.size≤k) v0 w:=h2.chg
  show StepC (some b) _ (stW x _).1 (stW x _).2.1 _ w
  unfold StepC
  refine(step_any ti ta tb tc td m p h1 h2.le (by omega) rfl (List.getElem?_eq_getElem hml) (kc2.cell hlv (by show¬v0.heap.size≤kb;omega)) (old kb hkb) (hls.chgE deR_flat kc2 (fun hne k hk e=>by have:=hlb hne k hk;omega)) (fun hne k hk=>old k (hlb hne k hk)) (by omega) (by omega) ⟨by omega,by omega,by omega⟩).mono fun e w' h=> ?_
  obtain⟨gv',rv',wv',nv',A,n,c,rfl,ho,hx,hc,hn⟩:=h
  refine⟨A,n,c,rfl,⟨⟨A,n,c,rfl⟩,hc.mono (fun k _ e=>(h3 k).2 (.inl e)), ?_,ho.sl,fun k hk=>ho.lt k hk,fun k=>WBf b gv' rv' wv' nv' k∨k<v0.heap.size,⟨gv',rv',wv',nv',hx,h2.up hc (fun k hk=>WBf.old h1 hk),fun k=>Iff.rfl⟩,fun k hk=> ?_⟩⟩
  ·show(beW x _).length≤1000000
   unfold beW
   split
   ·unfold begW
    split<;>simp
   ·simp
  ·rcases hk with e|e
   ·exact(hn k e).imp (fun e=>(h3 k).2 (.inl e)) id
   ·exact .inl ((h3 k).2 (.inr e))
 next:=fun {x S L i} h hS hi ht=>by
  obtain⟨rfl,g1,g2,g3,g4,g5⟩:=h
  unfold giveS
  rw[List.getElem?_eq_getElem hi]
  have hr:S.rs[i]∈S.rs:=List.getElem_mem hi
  generalize S.rs[i]=r at hr
  have hk:=g5 r hr
  simp only
  have tn:∀(T:SS) (l:List Tk),(begS T l).turns=T.turns:=fun T l=>(begS_closed l T).2.2
  refine⟨rfl, ?_, ?_, ?_, ?_, ?_⟩
  ·rw[tn];show(x.given++[_]).length=(S.turns++[_]).length;simp[g1]
  ·rw[tn];show(x.ret++[_]).length=(S.turns++[_]).length;simp[g2]
  ·rw[tn];show(x.waits++[_]).length=(S.turns++[_]).length;simp[g3]
  ·rw[tn];show(x.begun++[_]).length=(S.turns++[_]).length;simp[g4]
  ·rw[tn]
   have e:(S.turns++[(⟨r.task.id,r.wait,L.length⟩:Tn)]).length=S.turns.length+1:=by simp
   refine fun r1 hr1=> ?_
   show KOk x.kinds (S.turns++[(⟨r.task.id,r.wait,L.length⟩:Tn)]).length r1
   rw[e]
   refine begS_alls (p:=KOk x.kinds (S.turns.length+1)) _ _ (fun n t ht=>beW_kinds t ht) (fun r' hr'=> ?_) r1 hr1
   rcases List.mem_or_eq_of_mem_set hr' with hr'|rfl
   ·obtain⟨k,hk⟩:=List.getElem?_of_mem hr'
    unfold agedL at hk
    rw[List.getElem?_mapIdx] at hk
    obtain⟨r0,h1,rfl⟩:=Option.map_eq_some_iff.1 hk
    have:=g5 r0 (List.mem_of_getElem? h1)
    exact⟨this.obj,this.k0,this.k1,this.p0,by have:=this.p1;show r0.task.pc≤_;omega⟩
   ·refine⟨waW_obj hD r.task,hk.k0,hk.k1, ?_, ?_⟩
    ·show 0≤r.task.pc+1
     have:=hk.p0;omega
    ·show r.task.pc+1≤_
     have:=hk.p1;omega
end Co
end Go.Proofs.Ytlngbdggehghgaa

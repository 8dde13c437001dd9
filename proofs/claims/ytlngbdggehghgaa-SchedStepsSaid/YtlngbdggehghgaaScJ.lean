/-
  A step of the document's world: its memory. Conditions: as each theorem says.
-/
import Derived.Test.YtlngbdggehghgaaScI
namespace Go.Proofs.Ytlngbdggehghgaa
set_option linter.unusedSimpArgs false
set_option linter.unusedVariables false
open Go.RowKit
theorem inR_flat:intR.flat:=fun _ _ _ _ h=>h
def Dd (l:List (Option Nat)):Prop:=l.Pairwise fun a b=> ∀k,a=some k→b≠some k
structure WX (B b:Nat) (kv:Value) (fs:List Bool) (c9 c10 c11 c12 gv rv wv nv:Value) (gl rl:List Tk) (wl:List Wa) (nl:List Int) (w:World):Prop where
 box:Cells w b (kv::(flV fs++[c9,c10,c11,c12]))
 fl:fs.length=8
 g:Own tkR 35 B w gv gl
 r:Own tkR 35 B w rv rl
 wt:Own waR 37 B w wv wl
 n:Own intR 3 B w nv nl
 bB:B≤b
 ds:Dd [some b,gv.ownBlock,rv.ownBlock,wv.ownBlock,nv.ownBlock]
def WBf (b:Nat) (gv rv wv nv:Value) (k:Nat):Prop:=k=b∨gv.ownBlock=some k∨rv.ownBlock=some k∨wv.ownBlock=some k∨nv.ownBlock=some k
section
variable {B b:Nat} {kv:Value} {fs:List Bool} {c9 c10 c11 c12 gv rv wv nv:Value} {gl rl:List Tk} {wl:List Wa} {nl:List Int} {w w' x x':World} {F:Nat→Prop}
theorem WX.chg (h:WX B b kv fs c9 c10 c11 c12 gv rv wv nv gl rl wl nl w) (c:Chg F w w') (hd:∀k,WBf b gv rv wv nv k→¬F k):WX B b kv fs c9 c10 c11 c12 gv rv wv nv gl rl wl nl w':=
 ⟨h.box.chg c (hd _ (.inl rfl)),h.fl,h.g.chg tkR_flat c fun k e=>hd k (.inr (.inl e)),h.r.chg tkR_flat c fun k e=>hd k (.inr (.inr (.inl e))),h.wt.chg waR_flat c fun k e=>hd k (.inr (.inr (.inr (.inl e)))),
  h.n.chg inR_flat c fun k e=>hd k (.inr (.inr (.inr (.inr e)))),h.bB,h.ds⟩
theorem WX.cx (h:WX B b kv fs c9 c10 c11 c12 gv rv wv nv gl rl wl nl w) {j:Nat} {y:Value} (hy:[c9,c10,c11,c12][j]?=some y):w.cell? ⟨b,9+j,none⟩=some y:=by
 refine h.box.c (9+j) _ ?_
 have hl:(flV fs).length=8:=by simp[flV,h.fl]
 rw[show 9+j=8+j+1 by omega,List.getElem?_cons_succ,List.getElem?_append_right (by omega),hl,show 8+j-8=j by omega]
 exact hy
theorem WX.cf (h:WX B b kv fs c9 c10 c11 c12 gv rv wv nv gl rl wl nl w) {j:Nat} {y:Bool} (hy:fs[j]?=some y):w.cell? ⟨b,1+j,none⟩=some (.bool y):=by
 refine h.box.c (1+j) _ ?_
 have hj:j<fs.length:=(List.getElem?_eq_some_iff.1 hy).1
 rw[show 1+j=j+1 by omega,List.getElem?_cons_succ,List.getElem?_append_left (by simp[flV];omega)]
 simp[flV,List.getElem?_map,hy]
theorem WX.lt (h:WX B b kv fs c9 c10 c11 c12 gv rv wv nv gl rl wl nl w) {k:Nat} (hk:WBf b gv rv wv nv k):k<w.heap.size:=by
 rcases hk with rfl|e|e|e|e
 ·exact h.box.lt
 ·exact(h.g.lt k e).2
 ·exact(h.r.lt k e).2
 ·exact(h.wt.lt k e).2
 ·exact(h.n.lt k e).2
theorem Cells.turn {w:World} {b:Nat} {l:List Value} (h:Cells w b l) {j:Nat} (hj:j<l.length) (y:Value):Cells (w.setCell ⟨b,j,none⟩ y) b (l.set j y):=by
 refine⟨fun i u hu=> ?_,fun i=> ?_, ?_⟩
 ·rw[List.getElem?_set] at hu
  by_cases e:j=i
  ·subst e
   simp only[if_true,hj] at hu
   obtain rfl:=Option.some.inj hu
   exact World.cell?_setCell_same _ _ _ (h.c j _ (List.getElem?_eq_getElem hj))
  ·rw[if_neg e] at hu
   rw[World.cell?_setCell_other _ _ _ _ (by intro h;simp only[Addr.mk.injEq] at h;omega)]
   exact h.c i u hu
 ·simp[h.f i]
 ·simp[h.lt]
theorem cons_set {kv:Value} {l m:List Value} (hl:l.length=8) (j:Nat) (y:Value):(kv::(l++m)).set (9+j) y=kv::(l++m.set j y):=by
 rw[show 9+j=8+j+1 by omega,List.set_cons_succ,List.set_append_right _ _ (by omega),hl,show 8+j-8=j by omega]
theorem WX.set9 (h:WX B b kv fs c9 c10 c11 c12 gv rv wv nv gl rl wl nl w):WX B b kv fs gv c10 c11 c12 gv rv wv nv gl rl wl nl (w.setCell ⟨b,9,none⟩ gv):=by
 have hc:=Chg.set (F:=fun k=>k=b) w (a:=⟨b,9,none⟩) gv rfl
 have hl:(flV fs).length=8:=by simp[flV,h.fl]
 obtain⟨d1,_⟩:=List.pairwise_cons.1 h.ds
 refine⟨?_,h.fl,h.g.chg tkR_flat hc fun k hk e=> ?_,h.r.chg tkR_flat hc fun k hk e=> ?_,h.wt.chg waR_flat hc fun k hk e=> ?_,h.n.chg inR_flat hc fun k hk e=> ?_,h.bB,h.ds⟩
 ·have h1:=h.box.turn (j:=9+0) (by simp[hl]) gv
  rw[cons_set hl] at h1
  exact h1
 all_goals subst e
 ·exact d1 _ (by simp) _ rfl hk
 ·exact d1 _ (by simp) _ rfl hk
 ·exact d1 _ (by simp) _ rfl hk
 ·exact d1 _ (by simp) _ rfl hk
theorem WX.set10 (h:WX B b kv fs c9 c10 c11 c12 gv rv wv nv gl rl wl nl w):WX B b kv fs c9 rv c11 c12 gv rv wv nv gl rl wl nl (w.setCell ⟨b,10,none⟩ rv):=by
 have hc:=Chg.set (F:=fun k=>k=b) w (a:=⟨b,10,none⟩) rv rfl
 have hl:(flV fs).length=8:=by simp[flV,h.fl]
 obtain⟨d1,_⟩:=List.pairwise_cons.1 h.ds
 refine⟨?_,h.fl,h.g.chg tkR_flat hc fun k hk e=> ?_,h.r.chg tkR_flat hc fun k hk e=> ?_,h.wt.chg waR_flat hc fun k hk e=> ?_,h.n.chg inR_flat hc fun k hk e=> ?_,h.bB,h.ds⟩
 ·have h1:=h.box.turn (j:=9+1) (by simp[hl]) rv
  rw[cons_set hl] at h1
  exact h1
 all_goals subst e
 ·exact d1 _ (by simp) _ rfl hk
 ·exact d1 _ (by simp) _ rfl hk
 ·exact d1 _ (by simp) _ rfl hk
 ·exact d1 _ (by simp) _ rfl hk
theorem WX.set11 (h:WX B b kv fs c9 c10 c11 c12 gv rv wv nv gl rl wl nl w):WX B b kv fs c9 c10 wv c12 gv rv wv nv gl rl wl nl (w.setCell ⟨b,11,none⟩ wv):=by
 have hc:=Chg.set (F:=fun k=>k=b) w (a:=⟨b,11,none⟩) wv rfl
 have hl:(flV fs).length=8:=by simp[flV,h.fl]
 obtain⟨d1,_⟩:=List.pairwise_cons.1 h.ds
 refine⟨?_,h.fl,h.g.chg tkR_flat hc fun k hk e=> ?_,h.r.chg tkR_flat hc fun k hk e=> ?_,h.wt.chg waR_flat hc fun k hk e=> ?_,h.n.chg inR_flat hc fun k hk e=> ?_,h.bB,h.ds⟩
 ·have h1:=h.box.turn (j:=9+2) (by simp[hl]) wv
  rw[cons_set hl] at h1
  exact h1
 all_goals subst e
 ·exact d1 _ (by simp) _ rfl hk
 ·exact d1 _ (by simp) _ rfl hk
 ·exact d1 _ (by simp) _ rfl hk
 ·exact d1 _ (by simp) _ rfl hk
theorem WX.set12 (h:WX B b kv fs c9 c10 c11 c12 gv rv wv nv gl rl wl nl w):WX B b kv fs c9 c10 c11 nv gv rv wv nv gl rl wl nl (w.setCell ⟨b,12,none⟩ nv):=by
 have hc:=Chg.set (F:=fun k=>k=b) w (a:=⟨b,12,none⟩) nv rfl
 have hl:(flV fs).length=8:=by simp[flV,h.fl]
 obtain⟨d1,_⟩:=List.pairwise_cons.1 h.ds
 refine⟨?_,h.fl,h.g.chg tkR_flat hc fun k hk e=> ?_,h.r.chg tkR_flat hc fun k hk e=> ?_,h.wt.chg waR_flat hc fun k hk e=> ?_,h.n.chg inR_flat hc fun k hk e=> ?_,h.bB,h.ds⟩
 ·have h1:=h.box.turn (j:=9+3) (by simp[hl]) nv
  rw[cons_set hl] at h1
  exact h1
 all_goals subst e
 ·exact d1 _ (by simp) _ rfl hk
 ·exact d1 _ (by simp) _ rfl hk
 ·exact d1 _ (by simp) _ rfl hk
 ·exact d1 _ (by simp) _ rfl hk
theorem WX.app9 (h:WX B b kv fs c9 c10 c11 c12 gv rv wv nv gl rl wl nl x) {gv':Value} {gl':List Tk} (ho:Own tkR 35 B x' gv' gl') (hg:x.grownBy x' gv.ownBlock) (ha:gv'.ownBlock=gv.ownBlock∨gv'.ownBlock=some x.heap.size):
 WX B b kv fs c9 c10 c11 c12 gv' rv wv nv gl' rl wl nl x':=by
 have hc:Chg (fun k=>gv.ownBlock=some k) x x':=Chg.grown hg (fun k e=>e)
 have D:=h.ds
 have lb:=h.box.lt
 have lg:=h.g.lt
 have lr:=h.r.lt
 have lw:=h.wt.lt
 have ln:=h.n.lt
 simp only[Dd,List.pairwise_cons,List.mem_cons,List.not_mem_nil,or_false,forall_eq_or_imp,forall_eq,Option.some.injEq,ne_eq] at D
 obtain⟨⟨a1,a2,a3,a4⟩,⟨b1,b2,b3⟩,⟨e1,e2⟩,f1,_⟩:=D
 refine⟨h.box.chg hc ?_,h.fl,ho,h.r.chg tkR_flat hc fun k hk e=> ?_,h.wt.chg waR_flat hc fun k hk e=> ?_,h.n.chg inR_flat hc fun k hk e=> ?_,h.bB, ?_⟩
 ·intro e;first|exact a1 _ rfl e|exact a2 _ rfl e|exact a3 _ rfl e|exact a4 _ rfl e
 ·first|exact b1 _ e hk|exact b1 _ hk e|exact b2 _ e hk|exact b2 _ hk e|exact b3 _ e hk|exact b3 _ hk e|exact e1 _ e hk|exact e1 _ hk e|exact e2 _ e hk|exact e2 _ hk e|exact f1 _ e hk|exact f1 _ hk e
 ·first|exact b1 _ e hk|exact b1 _ hk e|exact b2 _ e hk|exact b2 _ hk e|exact b3 _ e hk|exact b3 _ hk e|exact e1 _ e hk|exact e1 _ hk e|exact e2 _ e hk|exact e2 _ hk e|exact f1 _ e hk|exact f1 _ hk e
 ·first|exact b1 _ e hk|exact b1 _ hk e|exact b2 _ e hk|exact b2 _ hk e|exact b3 _ e hk|exact b3 _ hk e|exact e1 _ e hk|exact e1 _ hk e|exact e2 _ e hk|exact e2 _ hk e|exact f1 _ e hk|exact f1 _ hk e
 ·rcases ha with ha|ha
  ·rw[ha];exact h.ds
  ·rw[ha]
   simp only[Dd,List.pairwise_cons,List.mem_cons,List.not_mem_nil,or_false,forall_eq_or_imp,forall_eq,Option.some.injEq,ne_eq]
   refine⟨⟨?_, ?_, ?_, ?_⟩,⟨?_, ?_, ?_⟩,⟨?_, ?_⟩, ?_,by simp,by simp⟩
   all_goals
    intro k hk
    first
    |(subst hk;first|exact a1 _ rfl|exact a2 _ rfl|exact a3 _ rfl|exact a4 _ rfl|(intro e;omega)|(intro e;have:=(lg _ e).2;omega)|(intro e;have:=(lr _ e).2;omega)|(intro e;have:=(lw _ e).2;omega)|(intro e;have:=(ln _ e).2;omega))
    |(intro e;first|exact b1 _ hk e|exact b2 _ hk e|exact b3 _ hk e|exact e1 _ hk e|exact e2 _ hk e|exact f1 _ hk e|(have:=(lg _ hk).2;omega)|(have:=(lr _ hk).2;omega)|(have:=(lw _ hk).2;omega)|(have:=(ln _ hk).2;omega))
theorem WX.app10 (h:WX B b kv fs c9 c10 c11 c12 gv rv wv nv gl rl wl nl x) {rv':Value} {rl':List Tk} (ho:Own tkR 35 B x' rv' rl') (hg:x.grownBy x' rv.ownBlock) (ha:rv'.ownBlock=rv.ownBlock∨rv'.ownBlock=some x.heap.size):
 WX B b kv fs c9 c10 c11 c12 gv rv' wv nv gl rl' wl nl x':=by
 have hc:Chg (fun k=>rv.ownBlock=some k) x x':=Chg.grown hg (fun k e=>e)
 have D:=h.ds
 have lb:=h.box.lt
 have lg:=h.g.lt
 have lr:=h.r.lt
 have lw:=h.wt.lt
 have ln:=h.n.lt
 simp only[Dd,List.pairwise_cons,List.mem_cons,List.not_mem_nil,or_false,forall_eq_or_imp,forall_eq,Option.some.injEq,ne_eq] at D
 obtain⟨⟨a1,a2,a3,a4⟩,⟨b1,b2,b3⟩,⟨e1,e2⟩,f1,_⟩:=D
 refine⟨h.box.chg hc ?_,h.fl,h.g.chg tkR_flat hc fun k hk e=> ?_,ho,h.wt.chg waR_flat hc fun k hk e=> ?_,h.n.chg inR_flat hc fun k hk e=> ?_,h.bB, ?_⟩
 ·intro e;first|exact a1 _ rfl e|exact a2 _ rfl e|exact a3 _ rfl e|exact a4 _ rfl e
 ·first|exact b1 _ e hk|exact b1 _ hk e|exact b2 _ e hk|exact b2 _ hk e|exact b3 _ e hk|exact b3 _ hk e|exact e1 _ e hk|exact e1 _ hk e|exact e2 _ e hk|exact e2 _ hk e|exact f1 _ e hk|exact f1 _ hk e
 ·first|exact b1 _ e hk|exact b1 _ hk e|exact b2 _ e hk|exact b2 _ hk e|exact b3 _ e hk|exact b3 _ hk e|exact e1 _ e hk|exact e1 _ hk e|exact e2 _ e hk|exact e2 _ hk e|exact f1 _ e hk|exact f1 _ hk e
 ·first|exact b1 _ e hk|exact b1 _ hk e|exact b2 _ e hk|exact b2 _ hk e|exact b3 _ e hk|exact b3 _ hk e|exact e1 _ e hk|exact e1 _ hk e|exact e2 _ e hk|exact e2 _ hk e|exact f1 _ e hk|exact f1 _ hk e
 ·rcases ha with ha|ha
  ·rw[ha];exact h.ds
  ·rw[ha]
   simp only[Dd,List.pairwise_cons,List.mem_cons,List.not_mem_nil,or_false,forall_eq_or_imp,forall_eq,Option.some.injEq,ne_eq]
   refine⟨⟨?_, ?_, ?_, ?_⟩,⟨?_, ?_, ?_⟩,⟨?_, ?_⟩, ?_,by simp,by simp⟩
   all_goals
    intro k hk
    first
    |(subst hk;first|exact a1 _ rfl|exact a2 _ rfl|exact a3 _ rfl|exact a4 _ rfl|(intro e;omega)|(intro e;have:=(lg _ e).2;omega)|(intro e;have:=(lr _ e).2;omega)|(intro e;have:=(lw _ e).2;omega)|(intro e;have:=(ln _ e).2;omega))
    |(intro e;first|exact b1 _ hk e|exact b2 _ hk e|exact b3 _ hk e|exact e1 _ hk e|exact e2 _ hk e|exact f1 _ hk e|(have:=(lg _ hk).2;omega)|(have:=(lr _ hk).2;omega)|(have:=(lw _ hk).2;omega)|(have:=(ln _ hk).2;omega))
theorem WX.app11 (h:WX B b kv fs c9 c10 c11 c12 gv rv wv nv gl rl wl nl x) {wv':Value} {wl':List Wa} (ho:Own waR 37 B x' wv' wl') (hg:x.grownBy x' wv.ownBlock) (ha:wv'.ownBlock=wv.ownBlock∨wv'.ownBlock=some x.heap.size):
 WX B b kv fs c9 c10 c11 c12 gv rv wv' nv gl rl wl' nl x':=by
 have hc:Chg (fun k=>wv.ownBlock=some k) x x':=Chg.grown hg (fun k e=>e)
 have D:=h.ds
 have lb:=h.box.lt
 have lg:=h.g.lt
 have lr:=h.r.lt
 have lw:=h.wt.lt
 have ln:=h.n.lt
 simp only[Dd,List.pairwise_cons,List.mem_cons,List.not_mem_nil,or_false,forall_eq_or_imp,forall_eq,Option.some.injEq,ne_eq] at D
 obtain⟨⟨a1,a2,a3,a4⟩,⟨b1,b2,b3⟩,⟨e1,e2⟩,f1,_⟩:=D
 refine⟨h.box.chg hc ?_,h.fl,h.g.chg tkR_flat hc fun k hk e=> ?_,h.r.chg tkR_flat hc fun k hk e=> ?_,ho,h.n.chg inR_flat hc fun k hk e=> ?_,h.bB, ?_⟩
 ·intro e;first|exact a1 _ rfl e|exact a2 _ rfl e|exact a3 _ rfl e|exact a4 _ rfl e
 ·first|exact b1 _ e hk|exact b1 _ hk e|exact b2 _ e hk|exact b2 _ hk e|exact b3 _ e hk|exact b3 _ hk e|exact e1 _ e hk|exact e1 _ hk e|exact e2 _ e hk|exact e2 _ hk e|exact f1 _ e hk|exact f1 _ hk e
 ·first|exact b1 _ e hk|exact b1 _ hk e|exact b2 _ e hk|exact b2 _ hk e|exact b3 _ e hk|exact b3 _ hk e|exact e1 _ e hk|exact e1 _ hk e|exact e2 _ e hk|exact e2 _ hk e|exact f1 _ e hk|exact f1 _ hk e
 ·first|exact b1 _ e hk|exact b1 _ hk e|exact b2 _ e hk|exact b2 _ hk e|exact b3 _ e hk|exact b3 _ hk e|exact e1 _ e hk|exact e1 _ hk e|exact e2 _ e hk|exact e2 _ hk e|exact f1 _ e hk|exact f1 _ hk e
 ·rcases ha with ha|ha
  ·rw[ha];exact h.ds
  ·rw[ha]
   simp only[Dd,List.pairwise_cons,List.mem_cons,List.not_mem_nil,or_false,forall_eq_or_imp,forall_eq,Option.some.injEq,ne_eq]
   refine⟨⟨?_, ?_, ?_, ?_⟩,⟨?_, ?_, ?_⟩,⟨?_, ?_⟩, ?_,by simp,by simp⟩
   all_goals
    intro k hk
    first
    |(subst hk;first|exact a1 _ rfl|exact a2 _ rfl|exact a3 _ rfl|exact a4 _ rfl|(intro e;omega)|(intro e;have:=(lg _ e).2;omega)|(intro e;have:=(lr _ e).2;omega)|(intro e;have:=(lw _ e).2;omega)|(intro e;have:=(ln _ e).2;omega))
    |(intro e;first|exact b1 _ hk e|exact b2 _ hk e|exact b3 _ hk e|exact e1 _ hk e|exact e2 _ hk e|exact f1 _ hk e|(have:=(lg _ hk).2;omega)|(have:=(lr _ hk).2;omega)|(have:=(lw _ hk).2;omega)|(have:=(ln _ hk).2;omega))
theorem WX.app12 (h:WX B b kv fs c9 c10 c11 c12 gv rv wv nv gl rl wl nl x) {nv':Value} {nl':List Int} (ho:Own intR 3 B x' nv' nl') (hg:x.grownBy x' nv.ownBlock) (ha:nv'.ownBlock=nv.ownBlock∨nv'.ownBlock=some x.heap.size):
 WX B b kv fs c9 c10 c11 c12 gv rv wv nv' gl rl wl nl' x':=by
 have hc:Chg (fun k=>nv.ownBlock=some k) x x':=Chg.grown hg (fun k e=>e)
 have D:=h.ds
 have lb:=h.box.lt
 have lg:=h.g.lt
 have lr:=h.r.lt
 have lw:=h.wt.lt
 have ln:=h.n.lt
 simp only[Dd,List.pairwise_cons,List.mem_cons,List.not_mem_nil,or_false,forall_eq_or_imp,forall_eq,Option.some.injEq,ne_eq] at D
 obtain⟨⟨a1,a2,a3,a4⟩,⟨b1,b2,b3⟩,⟨e1,e2⟩,f1,_⟩:=D
 refine⟨h.box.chg hc ?_,h.fl,h.g.chg tkR_flat hc fun k hk e=> ?_,h.r.chg tkR_flat hc fun k hk e=> ?_,h.wt.chg waR_flat hc fun k hk e=> ?_,ho,h.bB, ?_⟩
 ·intro e;first|exact a1 _ rfl e|exact a2 _ rfl e|exact a3 _ rfl e|exact a4 _ rfl e
 ·first|exact b1 _ e hk|exact b1 _ hk e|exact b2 _ e hk|exact b2 _ hk e|exact b3 _ e hk|exact b3 _ hk e|exact e1 _ e hk|exact e1 _ hk e|exact e2 _ e hk|exact e2 _ hk e|exact f1 _ e hk|exact f1 _ hk e
 ·first|exact b1 _ e hk|exact b1 _ hk e|exact b2 _ e hk|exact b2 _ hk e|exact b3 _ e hk|exact b3 _ hk e|exact e1 _ e hk|exact e1 _ hk e|exact e2 _ e hk|exact e2 _ hk e|exact f1 _ e hk|exact f1 _ hk e
 ·first|exact b1 _ e hk|exact b1 _ hk e|exact b2 _ e hk|exact b2 _ hk e|exact b3 _ e hk|exact b3 _ hk e|exact e1 _ e hk|exact e1 _ hk e|exact e2 _ e hk|exact e2 _ hk e|exact f1 _ e hk|exact f1 _ hk e
 ·rcases ha with ha|ha
  ·rw[ha];exact h.ds
  ·rw[ha]
   simp only[Dd,List.pairwise_cons,List.mem_cons,List.not_mem_nil,or_false,forall_eq_or_imp,forall_eq,Option.some.injEq,ne_eq]
   refine⟨⟨?_, ?_, ?_, ?_⟩,⟨?_, ?_, ?_⟩,⟨?_, ?_⟩, ?_,by simp,by simp⟩
   all_goals
    intro k hk
    first
    |(subst hk;first|exact a1 _ rfl|exact a2 _ rfl|exact a3 _ rfl|exact a4 _ rfl|(intro e;omega)|(intro e;have:=(lg _ e).2;omega)|(intro e;have:=(lr _ e).2;omega)|(intro e;have:=(lw _ e).2;omega)|(intro e;have:=(ln _ e).2;omega))
    |(intro e;first|exact b1 _ hk e|exact b2 _ hk e|exact b3 _ hk e|exact e1 _ hk e|exact e2 _ hk e|exact f1 _ hk e|(have:=(lg _ hk).2;omega)|(have:=(lr _ hk).2;omega)|(have:=(lw _ hk).2;omega)|(have:=(ln _ hk).2;omega))
end
end Go.Proofs.Ytlngbdggehghgaa

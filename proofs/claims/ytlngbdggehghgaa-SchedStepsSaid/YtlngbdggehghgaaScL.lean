/-
  A step of the document's world: the walk. Conditions: as the theorem says.
-/
import Derived.Test.YtlngbdggehghgaaScN
namespace Go.Proofs.Ytlngbdggehghgaa
set_option linter.unusedSimpArgs false
set_option linter.unusedVariables false
open Go.RowKit
theorem Chg.setCells (b:Nat):∀(vs:List Value) (o:Nat) (w:World),Chg (fun k=>k=b) w (w.setCells b o vs)
 |[],_,w=>Chg.refl _ w
 |v::r,o,w=>(Chg.set (F:=fun k=>k=b) w (a:=⟨b,o,none⟩) v rfl).trans (Chg.setCells b r (o+1) (w.setCell ⟨b,o,none⟩ v)) (fun _ _ h=>h)
theorem Cells.there {w:World} {b:Nat} {cs:List Value} (h:Cells w b cs) {n:Nat} (hn:cs.length=n):w.there b 0 n:=fun j hj=>by
 subst hn
 rw[Nat.zero_add]
 exact⟨by rw[h.c j _ (List.getElem?_eq_getElem hj)];rfl,h.f j⟩
theorem Cells.over {w:World} {b:Nat} {cs vs:List Value} (h:Cells w b cs) (hl:cs.length=vs.length):Cells (w.setCells b 0 vs) b vs:=by
 refine⟨fun j u hu=> ?_,fun j=> ?_, ?_⟩
 ·have:=World.rangeAt_setCells_same w b 0 vs (h.there hl) j u hu
  rwa[Nat.zero_add] at this
 ·rw[World.frozen?_setCells];exact h.f j
 ·exact Nat.lt_of_lt_of_le h.lt (Chg.setCells b vs 0 w).size
set_option maxRecDepth 20000 in
set_option maxHeartbeats 8000000 in
theorem step_any {B b:Nat} {kv:Value} {gv rv wv nv:Value} {x:RW} {w:World} (ti ta tb tc td:Int) (m p:Nat) (h:WX B b kv x.flags gv rv wv nv gv rv wv nv x.given x.ret x.waits x.begun w) (hBw:B≤w.heap.size) (hg:x.given.length<100000)
 {kb ko kc:Nat} (hkv:kv=.slice (some ⟨kb,ko,none⟩) x.kinds.length kc) {lv:Value} {l:List De} (hl1:x.kinds[m]?=some l) (hlv:w.cell? ⟨kb,ko+m,none⟩=some lv) (hkb:¬WBf b gv rv wv nv kb)
 (hls:Sl deR w lv l) (hlf:l≠[]→∀k,lv.ownBlock=some k→¬WBf b gv rv wv nv k) (hp1:p<100000) (hkn:x.kinds.length≤9223372036854775807) (hln:x.ret.length=x.given.length∧x.waits.length=x.given.length∧x.begun.length=x.given.length):
 Calls Try.prog 81 #[.pointer (some ⟨b,0,none⟩),.agg (⟨ti,(m:Int),(p:Int),ta,tb,tc,td⟩:Tk).cells.toArray] w fun e w'=> ∃gv' rv' wv' nv' A n c,e=.returned (.tuple #[.agg (stW x (⟨ti,(m:Int),(p:Int),ta,tb,tc,td⟩:Tk)).1.cells.toArray,.agg (stW x (⟨ti,(m:Int),(p:Int),ta,tb,tc,td⟩:Tk)).2.1.cells.toArray,.slice A n c])∧Own tkR 35 w.heap.size w' (.slice A n c) (beW x (⟨ti,(m:Int),(p:Int),ta,tb,tc,td⟩:Tk))∧
  WX B b kv (fsW x (⟨ti,(m:Int),(p:Int),ta,tb,tc,td⟩:Tk)) gv' rv' wv' nv' gv' rv' wv' nv' (x.given++[(⟨ti,(m:Int),(p:Int),ta,tb,tc,td⟩:Tk)]) (x.ret++[tkW x (⟨ti,(m:Int),(p:Int),ta,tb,tc,td⟩:Tk)]) (x.waits++[waW x (⟨ti,(m:Int),(p:Int),ta,tb,tc,td⟩:Tk)]) (x.begun++[((beW x (⟨ti,(m:Int),(p:Int),ta,tb,tc,td⟩:Tk)).length:Int)]) w'∧Chg (WBf b gv rv wv nv) w w'∧∀k,WBf b gv' rv' wv' nv' k→WBf b gv rv wv nv k∨w.heap.size≤k:=by
 have hml:m<x.kinds.length:=(List.getElem?_eq_some_iff.1 hl1).1
 obtain⟨lA,lc,rfl,hlc1,hlc2,_⟩:=hls.open
 have hgs:(x.given.length+1)*56≤140737488355328:=by omega
 have S0:SQ B b kv (WBf b gv rv wv nv) w x.flags gv rv wv nv gv rv wv nv x.given x.ret x.waits x.begun (⟨ti,(m:Int),(p:Int),ta,tb,tc,td⟩:Tk) (((w.alloc (.cells (⟨ti,(m:Int),(p:Int),ta,tb,tc,td⟩:Tk).cells.toArray 35)).alloc (.cells #[.int .i64 0,.int .i64 0,.int .i64 0,.int .i64 0,.int .i64 0,.int .i64 0,.int .i64 0] 35)).alloc (.cells #[.int .i64 0,.int .i64 0,.int .i64 0] 37)):=by
  have b1:=(Cells.new w (⟨ti,(m:Int),(p:Int),ta,tb,tc,td⟩:Tk).cells 35)
  have b2:=(Cells.new (w.alloc (.cells (⟨ti,(m:Int),(p:Int),ta,tb,tc,td⟩:Tk).cells.toArray 35)) [.int .i64 0,.int .i64 0,.int .i64 0,.int .i64 0,.int .i64 0,.int .i64 0,.int .i64 0] 35)
  have b3:=(Cells.new ((w.alloc (.cells (⟨ti,(m:Int),(p:Int),ta,tb,tc,td⟩:Tk).cells.toArray 35)).alloc (.cells #[.int .i64 0,.int .i64 0,.int .i64 0,.int .i64 0,.int .i64 0,.int .i64 0,.int .i64 0] 35)) [.int .i64 0,.int .i64 0,.int .i64 0] 37)
  have z1:(w.alloc (.cells (⟨ti,(m:Int),(p:Int),ta,tb,tc,td⟩:Tk).cells.toArray 35)).heap.size=w.heap.size+1:=by simp
  have z2:((w.alloc (.cells (⟨ti,(m:Int),(p:Int),ta,tb,tc,td⟩:Tk).cells.toArray 35)).alloc (.cells #[.int .i64 0,.int .i64 0,.int .i64 0,.int .i64 0,.int .i64 0,.int .i64 0,.int .i64 0] 35)).heap.size=w.heap.size+2:=by simp
  rw[z1] at b2
  rw[z2] at b3
  exact⟨h.chg (F:=fun _=>False) (.of_below (bal (bal (ba _ _)))) (fun _ _=>id),(b1.alloc _).alloc _,⟨_,rfl,b2.alloc _⟩,⟨_,rfl,b3⟩,fun k hk=> .inl (h.lt hk),fun k hk=> .inl hk,by simp,(Chg.of_below (F:=fun _=>False) (bal (bal (ba _ _)))).mono (fun _ _ e=>e.elim),hBw⟩
 simp only[Tk.cells] at S0⊢
 go_enter Try.func81,Try.ntmps81
 go_wp2_with fail
 refine at_world (fun X=>SQ B b kv (WBf b gv rv wv nv) w x.flags gv rv wv nv gv rv wv nv x.given x.ret x.waits x.begun (⟨ti,(m:Int),(p:Int),ta,tb,tc,td⟩:Tk) X) S0 fun x1 S1=> ?_
 clear S0
 have H1:=Lib.hid S1
 clear S1
 refine wp_region_T (fun j=>j==10) (fun X=>Chg (fun k=>k=b∨gv.ownBlock=some k) x1 X) (fun X=>Chg (fun k=>gv.ownBlock=some k) x1 X) (by kernel_rfl) ?_
 have n0:∀k,WBf b gv rv wv nv k→k≠w.heap.size:=fun k hk=>by have:=H1.out.nw k hk;omega
 have HS:Chg (fun k=>k=b∨gv.ownBlock=some k) x1 x1.drew:=Chg.drew _ _
 have HS1':Chg (fun k=>gv.ownBlock=some k) x1 x1.drew:=Chg.drew _ _
 have HS1:∀{listed:Array Bool},NoLate (fun j=>j==10) listed→Chg (fun k=>gv.ownBlock=some k) x1 x1.drew:=fun _=>HS1'
 have hc9:=H1.out.wx.cx (j:=0) rfl
 have hgb:gv.ownBlock≠some b:=fun e=>by
  obtain⟨d1,_⟩:=List.pairwise_cons.1 H1.out.wx.ds
  exact d1 _ (by simp) _ rfl e
 have hT:=H1.out.c
 refine wpAnyT_take (i:=0) (v:=.pointer (some ⟨b,0,none⟩)) rfl (by decide+kernel) (by decide+kernel) (by decide+kernel) rfl (fun _ _ _ h=>h) (.inl ⟨rfl,fun W hS=>by go_simp⟩) HS HS1 ?_
 refine wpAnyT_take (i:=1) (v:=.pointer (some ⟨b,0,none⟩)) rfl (by decide+kernel) (by decide+kernel) (by decide+kernel) rfl (fun _ _ _ h=>h) (.inl ⟨rfl,fun W hS=>by go_simp⟩) HS HS1 ?_
 refine wpAnyT_take (i:=2) (v:=.pointer (some ⟨b,0,none⟩)) rfl (by decide+kernel) (by decide+kernel) (by decide+kernel) rfl (fun _ _ _ h=>h) (.inl ⟨rfl,fun W hS=>by go_simp⟩) HS HS1 ?_
 refine wpAnyT_take (i:=3) (v:=.pointer (some ⟨b,9,none⟩)) rfl (by decide+kernel) (by decide+kernel) (by decide+kernel) rfl (fun _ _ _ h=>h) (.inl ⟨rfl,fun W hS=>by go_simp⟩) HS HS1 ?_
 refine wpAnyT_load (i:=4) (v:=gv) rfl (by decide+kernel) (by decide+kernel) (by decide+kernel) rfl (by decide+kernel) (by decide+kernel) rfl (fun _ _ _ h=>h) (.inl ⟨rfl,fun W hS=>by have hc:=hS.2.cell hc9 (fun e=>hgb e);go_simp⟩) HS HS1' ?_
 refine wpAnyT_take (i:=5) rfl (by decide+kernel) (by decide+kernel) (by decide+kernel) rfl (fun _ _ _ h=>h) (yieldsIf_load_mid rfl 35 (.tmp 3) rfl (w.heap.size) (0) rfl ([.int .i64 ti,.int .i64 (m:Int),.int .i64 (p:Int),.int .i64 ta,.int .i64 tb,.int .i64 tc,.int .i64 td]) _ (fun X hX=>(hT.chg hX (fun e=>e.elim (n0 _ (.inl rfl)∘Eq.symm) fun e=>n0 _ (.inr (.inl e)) rfl)).range) Try.underlying35 rfl (by kernel_rfl)) HS HS1 ?_
 refine wpAnyT_all (rs:=[6]) (by decide+kernel) (by simp) fun j hj=> ?_
 obtain rfl:j=6:=by simpa using hj
 clear hj
 refine heldOpT rfl fun K hK=> ?_
 go_wp2_with fail
 have OL:Own tkR 35 x1.heap.size (x1.alloc (.cells #[.int .i64 ti,.int .i64 (m:Int),.int .i64 (p:Int),.int .i64 ta,.int .i64 tb,.int .i64 tc,.int .i64 td] 35)) (.slice (some ⟨x1.heap.size,0,none⟩) 1 1) [(⟨ti,(m:Int),(p:Int),ta,tb,tc,td⟩:Tk)]:=Own.lit (R:=tkR) (cells:=[.int .i64 ti,.int .i64 (m:Int),.int .i64 (p:Int),.int .i64 ta,.int .i64 tb,.int .i64 tc,.int .i64 td]) rfl (Nat.le_refl _) (Rep.many_one (R:=tkR) (x:=(⟨ti,(m:Int),(p:Int),ta,tb,tc,td⟩:Tk)) rfl) rfl (by decide)
 have CY:Chg (fun _=>False) x1 (x1.alloc (.cells #[.int .i64 ti,.int .i64 (m:Int),.int .i64 (p:Int),.int .i64 ta,.int .i64 tb,.int .i64 tc,.int .i64 td] 35)).drew:=(Chg.alloc _ _ _).trans (Chg.drew _ _) (fun _ _=>id)
 have ZY:x1.heap.size<(x1.alloc (.cells #[.int .i64 ti,.int .i64 (m:Int),.int .i64 (p:Int),.int .i64 ta,.int .i64 tb,.int .i64 tc,.int .i64 td] 35)).drew.heap.size:=by show x1.heap.size<(x1.alloc _).heap.size;rw[World.size_alloc];omega
 refine at_world (fun y=>Chg (fun _=>False) x1 y∧Own tkR 35 x1.heap.size y (.slice (some ⟨x1.heap.size,0,none⟩) 1 1) [(⟨ti,(m:Int),(p:Int),ta,tb,tc,td⟩:Tk)]∧x1.heap.size<y.heap.size) ⟨CY,OL.chg tkR_flat (Chg.drew (fun _=>False) _) (fun _ _=>id),ZY⟩ fun y ⟨cy,oy,zy⟩=> ?_
 refine hK.out _ _ ⟨cy.mono (fun _ _ e=>e.elim),fun _=>cy.mono (fun _ _ e=>e.elim), ?_⟩
 clear hK K OL CY ZY HS HS1 HS1' hc9
 have HY:=Lib.hid (H1.out.still cy)
 refine wpAnyT_all (rs:=[7]) (by decide+kernel) (by simp) fun j hj=> ?_
 obtain rfl:j=7:=by simpa using hj
 clear hj
 refine heldOpT rfl fun K hK=> ?_
 have OY:=Lib.hid oy
 clear oy
 refine wpList_append_sl _ rfl (.tmp 17) (.tmp 19) 69 rfl tkR B 35 _ 56 Try.underlying69 infoK rfl (by decide) gv x.given rfl HY.out.wx.g _ [(⟨ti,(m:Int),(p:Int),ta,tb,tc,td⟩:Tk)] rfl OY.out.sl (by simpa using hgs) (by decide) (Nat.le_trans HY.out.bB (Nat.le_trans (Nat.le_add_right _ 3) HY.out.sz)) (fun w' _ cs y h=>tkR_flat _ _ _ _ h) ?_
 intro g1 y1 hg1 hgr1 hga1
 obtain⟨GL,hGL⟩:∃GL,GL=x.given++[(⟨ti,(m:Int),(p:Int),ta,tb,tc,td⟩:Tk)]:=⟨_,rfl⟩
 rw[←hGL] at hg1
 have HGL:=Lib.hid hGL
 clear hGL
 obtain⟨ga,gc,rfl,_,_,_⟩:=hg1.form
 have CG:Chg (fun k=>gv.ownBlock=some k) x1 y1:=(cy.mono (fun _ _ e=>e.elim)).trans (Chg.grown hgr1 (fun k e=>e)) (fun _ _ h=>h)
 have HA:=Lib.hid (HY.out.app9 hg1 hgr1 hga1)
 have ha9:y1.cell? ⟨b,9,none⟩=some gv:=HA.out.wx.cx (j:=0) rfl
 have az9:y1.frozen? ⟨b,9,none⟩=false:=HA.out.wx.box.f 9
 go_wp2_with fail
 refine hK.out _ _ ⟨CG.mono (fun _ _ e=> .inr e),fun _=>CG, ?_⟩
 clear hK K hg1 hgr1 hga1 OY HY
 refine wpAnyT_take (i:=8) (v:=.pointer (some ⟨b,0,none⟩)) rfl (by decide+kernel) (by decide+kernel) (by decide+kernel) rfl (fun _ _ _ h=>h) (.inl ⟨rfl,fun W hS=>by go_simp⟩) (CG.mono (fun _ _ e=> .inr e)) (fun _=>CG) ?_
 refine wpAnyT_take (i:=9) (v:=.pointer (some ⟨b,9,none⟩)) rfl (by decide+kernel) (by decide+kernel) (by decide+kernel) rfl (fun _ _ _ h=>h) (.inl ⟨rfl,fun W hS=>by go_simp⟩) (CG.mono (fun _ _ e=> .inr e)) (fun _=>CG) ?_
 refine wpAnyT_all (rs:=[10]) (by decide+kernel) (by simp) fun j hj=> ?_
 obtain rfl:j=10:=by simpa using hj
 clear hj
 refine heldOpT rfl fun K hK=> ?_
 go_wp2_with fail
 refine at_world (fun X=>SQ B b kv (WBf b gv rv wv nv) w x.flags (.slice ga GL.length gc) rv wv nv (.slice ga GL.length gc) rv wv nv GL x.ret x.waits x.begun (⟨ti,(m:Int),(p:Int),ta,tb,tc,td⟩:Tk) X∧Chg (fun k=>k=b∨gv.ownBlock=some k) x1 X) ⟨HA.out.set9,(CG.mono (fun _ _ e=> .inr e)).trans (Chg.set (F:=fun k=>k=b) y1 (a:=⟨b,9,none⟩) (.slice ga GL.length gc) rfl) (fun _ _ e=> .inl e)⟩ fun x2 ⟨hx2,cx2⟩=> ?_
 refine hK.out _ _ ⟨cx2,fun n=>absurd (n 10 rfl) (by decide+kernel), ?_⟩
 clear hK K CG HA ha9 az9 H1 hgb hT n0 cx2 cy zy
 have H2:=Lib.hid hx2
 clear hx2
 refine wpAnyT_done (by decide+kernel) ?_ _
 have hkd:x2.cell? ⟨w.heap.size,1,none⟩=some (.int .i64 (m:Int)):=H2.out.c.c 1 _ rfl
 have hb0:x2.cell? ⟨b,0,none⟩=some (.slice (some ⟨kb,ko,none⟩) x.kinds.length kc):=by rw[←hkv];exact H2.out.wx.box.c 0 _ rfl
 have hk0:x2.cell? ⟨kb,ko+m,none⟩=some (.slice lA l.length lc):=H2.out.ch.cell hlv hkb
 go_wp2_with fail
 go_quiet (fail)
 refine at_world (fun X=>SQ B b kv (WBf b gv rv wv nv) w x.flags (.slice ga GL.length gc) rv wv nv (.slice ga GL.length gc) rv wv nv GL x.ret x.waits x.begun (⟨ti,(m:Int),(p:Int),ta,tb,tc,td⟩:Tk) X) (H2.out.still ⟨rfl,rfl,Nat.le_refl _,fun _ _ _=>rfl⟩) fun x3 hx3=> ?_
 have H3:=Lib.hid hx3
 clear hx3 H2 hkd hb0 hk0
 have hkd:x3.cell? ⟨w.heap.size,2,none⟩=some (.int .i64 (p:Int)):=H3.out.c.c 2 _ rfl
 have hdm:deedAt x.kinds (⟨ti,(m:Int),(p:Int),ta,tb,tc,td⟩:Tk)=l[p]?:=by
  show((x.kinds[(m:Int).toNat]?).getD [])[(p:Int).toNat]?=_
  rw[Int.toNat_natCast,Int.toNat_natCast,hl1];rfl
 have hl3:w.heap.size<x3.heap.size:=H3.out.c.lt
 go_upto_if 36 with fail
 have F1:=H3.out.still (Chg.alloc (fun _=>False) x3 (.cells #[.int .i64 2,.int .i64 0,.int .i64 0] 37))
 have F2:=Cells.new x3 [.int .i64 2,.int .i64 0,.int .i64 0] 37
 have F3:∀k,WBf b (.slice ga GL.length gc) rv wv nv k→k<x3.heap.size:=fun k hk=>H3.out.wx.lt hk
 have F4:=H3.out.sz
 refine at_world (fun X=>SQ B b kv (WBf b gv rv wv nv) w x.flags (.slice ga GL.length gc) rv wv nv (.slice ga GL.length gc) rv wv nv GL x.ret x.waits x.begun (⟨ti,(m:Int),(p:Int),ta,tb,tc,td⟩:Tk) X∧Cells X x3.heap.size [.int .i64 2,.int .i64 0,.int .i64 0]∧x3.heap.size<X.heap.size) ⟨F1,F2,by rw[World.size_alloc];omega⟩ fun x4 ⟨hx4,k4,z4⟩=> ?_
 clear F1 F2 H3 hkd hl3
 generalize x3.heap.size=q9 at F3 F4 k4 z4⊢
 have H4:=Lib.hid hx4
 clear hx4
 generalize hb36:decide (p<l.length)=b36
 go_cut [8,10,11,12] from 37 to 85 (fun v8 v10 v11 v12 W=> ∃oA oc,v8=.slice oA (beW x (⟨ti,(m:Int),(p:Int),ta,tb,tc,td⟩:Tk)).length oc∧SQ B b kv (WBf b gv rv wv nv) w (fsW x (⟨ti,(m:Int),(p:Int),ta,tb,tc,td⟩:Tk)) (.slice ga GL.length gc) rv wv nv (.slice ga GL.length gc) rv wv nv GL x.ret x.waits x.begun (⟨ti,(m:Int),(p:Int),ta,tb,tc,td⟩:Tk) W∧Cells W q9 (waW x (⟨ti,(m:Int),(p:Int),ta,tb,tc,td⟩:Tk)).cells∧(Own tkR 35 w.heap.size W (Value.slice oA (beW x (⟨ti,(m:Int),(p:Int),ta,tb,tc,td⟩:Tk)).length oc) (beW x (⟨ti,(m:Int),(p:Int),ta,tb,tc,td⟩:Tk))∧(∀k,(Value.slice oA (beW x (⟨ti,(m:Int),(p:Int),ta,tb,tc,td⟩:Tk)).length oc).ownBlock=some k→q9<k))∧q9<W.heap.size)
 case first=>
  cases b36 with
  |true=>
   have hpl:p<l.length:=of_decide_eq_true hb36
   have hlf:=hlf (List.ne_nil_of_length_pos (by omega))
   clear hb36
   have hds:deedAt x.kinds (⟨ti,(m:Int),(p:Int),ta,tb,tc,td⟩:Tk)=some l[p]:=by rw[hdm,List.getElem?_eq_getElem hpl]
   obtain⟨bl,off,cs,rfl,hbl,⟨rfl,hdk⟩,hat⟩:=hls.at_ hpl
   generalize l[p]=d at hds hdk hat
   have d0:x4.cell? ⟨bl,off+p*4,none⟩=some (.int .u8 d.wait):=H4.out.ch.cell (hat 0 _ rfl) (hlf bl rfl)
   have d1:x4.cell? ⟨bl,off+p*4+1,none⟩=some (.int .u8 d.obj):=H4.out.ch.cell (hat 1 _ rfl) (hlf bl rfl)
   have d2:x4.cell? ⟨bl,off+p*4+2,none⟩=some (.int .u8 d.turn):=H4.out.ch.cell (hat 2 _ rfl) (hlf bl rfl)
   have d3:x4.cell? ⟨bl,off+p*4+3,none⟩=some (.int .u8 d.beg):=H4.out.ch.cell (hat 3 _ rfl) (hlf bl rfl)
   have t2:x4.cell? ⟨w.heap.size,2,none⟩=some (.int .i64 (p:Int)):=H4.out.c.c 2 _ rfl
   obtain⟨⟨w1,w2⟩,⟨o1,o2⟩,⟨u1,u2⟩,⟨b1,b2⟩⟩:=hdk
   go_upto_if 48 with fail
   have G1:=H4.out.still (Chg.alloc (fun _=>False) x4 (.cells #[.int .u8 d.wait,.int .u8 d.obj,.int .u8 d.turn,.int .u8 d.beg] 81))
   have G2:Cells _ _ d.cells:=Cells.new x4 d.cells 81
   have G3:=k4.alloc (.cells #[.int .u8 d.wait,.int .u8 d.obj,.int .u8 d.turn,.int .u8 d.beg] 81)
   have G4:∀k,WBf b (.slice ga GL.length gc) rv wv nv k→k<x4.heap.size:=fun k hk=>H4.out.wx.lt hk
   refine at_world (fun X=>SQ B b kv (WBf b gv rv wv nv) w x.flags (.slice ga GL.length gc) rv wv nv (.slice ga GL.length gc) rv wv nv GL x.ret x.waits x.begun (⟨ti,(m:Int),(p:Int),ta,tb,tc,td⟩:Tk) X∧Cells X q9 [.int .i64 2,.int .i64 0,.int .i64 0]∧Cells X x4.heap.size d.cells∧x4.heap.size<X.heap.size) ⟨G1,G3,G2,by rw[World.size_alloc];omega⟩ fun x5 ⟨hx5,k5,kd,z5⟩=> ?_
   clear G1 G2 G3 d0 d1 d2 d3 t2 hat hls hlf hlv
   generalize x4.heap.size=q10 at G4 kd z4 z5⊢
   clear k4 H4
   have H5:=Lib.hid hx5
   clear hx5
   have hq:q9≠q10:=by omega
   have n5:∀k,WBf b (.slice ga GL.length gc) rv wv nv k→k≠q9∧k≠q10:=fun k hk=>⟨by have:=F3 k hk;omega,by have:=F3 k hk;omega⟩
   have HPL:=Lib.hid hpl
   clear hpl
   generalize hb48:decide (1≤d.turn%9)=b48
   go_cut [] from 49 to 60 (fun W=>SQ B b kv (WBf b gv rv wv nv) w (togS x.flags d) (.slice ga GL.length gc) rv wv nv (.slice ga GL.length gc) rv wv nv GL x.ret x.waits x.begun (⟨ti,(m:Int),(p:Int),ta,tb,tc,td⟩:Tk) W∧Cells W q9 [.int .i64 2,.int .i64 0,.int .i64 0]∧Cells W q10 d.cells∧q10<W.heap.size)
   case first=>
    cases b48 with
    |true=>
     have hk:0≤d.turn%9-1:=by
      have:1≤d.turn%9:=of_decide_eq_true hb48
      omega
     clear hb48
     go_upto_region 9 with fail
     obtain⟨kt,hkt⟩:∃kt:Nat,d.turn%9-1=(kt:Int):=⟨(d.turn%9-1).toNat,by omega⟩
     have hk8:kt<8:=by omega
     have hk8i:(kt:Int)<8:=by omega
     obtain⟨f,hf⟩:∃f,x.flags[kt]?=some f:=⟨x.flags[kt]'(by have:=H5.out.wx.fl;omega),List.getElem?_eq_getElem _⟩
     have e1:=Lib.hid (show togS x.flags d=x.flags.set kt (!f) by unfold togS;rw[if_pos hk,hkt,Int.toNat_natCast,hf,Option.getD_some])
     have cf:x5.cell? ⟨b,1+kt,none⟩=some (.bool f):=H5.out.wx.cf hf
     have zf:x5.frozen? ⟨b,1+kt,none⟩=false:=H5.out.wx.box.f _
     have cb:Chg (fun k=>k=b) x5 x5.drew:=Chg.drew _ _
     refine wp_region_T (fun j=>j==12) (fun X=>Chg (fun k=>k=b) x5 X) (fun X=>X.cell? ⟨b,1+kt,none⟩=some (.bool f)) (by kernel_rfl) ?_
     have cf1:∀{listed:Array Bool},NoLate (fun j=>j==12) listed→x5.drew.cell? ⟨b,1+kt,none⟩=some (.bool f):=fun _=>cf
     refine wpAnyT_take (i:=0) (v:=.pointer (some ⟨b,0,none⟩)) rfl (by decide+kernel) (by decide+kernel) (by decide+kernel) rfl (fun _ _ _ h=>h) (.inl ⟨rfl,fun W hS=>by go_simp⟩) cb cf1 ?_
     refine wpAnyT_take (i:=1) (v:=.int .i64 (d.turn%9-1)) rfl (by decide+kernel) (by decide+kernel) (by decide+kernel) rfl (fun _ _ _ h=>h) (.inl ⟨rfl,fun W hS=>by go_simp⟩) cb cf1 ?_
     refine wpAnyT_take (i:=2) (v:=.pointer (some ⟨b,0,none⟩)) rfl (by decide+kernel) (by decide+kernel) (by decide+kernel) rfl (fun _ _ _ h=>h) (.inl ⟨rfl,fun W hS=>by go_simp⟩) cb cf1 ?_
     refine wpAnyT_take (i:=3) (v:=.int .i64 (d.turn%9-1)) rfl (by decide+kernel) (by decide+kernel) (by decide+kernel) rfl (fun _ _ _ h=>h) (.inl ⟨rfl,fun W hS=>by go_simp⟩) cb cf1 ?_
     refine wpAnyT_take (i:=4) (v:=.pointer (some ⟨b,0,none⟩)) rfl (by decide+kernel) (by decide+kernel) (by decide+kernel) rfl (fun _ _ _ h=>h) (.inl ⟨rfl,fun W hS=>by go_simp⟩) cb cf1 ?_
     refine wpAnyT_take (i:=5) (v:=.pointer (some ⟨b,1,none⟩)) rfl (by decide+kernel) (by decide+kernel) (by decide+kernel) rfl (fun _ _ _ h=>h) (.inl ⟨rfl,fun W hS=>by go_simp⟩) cb cf1 ?_
     refine wpAnyT_take (i:=6) (v:=.pointer (some ⟨b,1+kt,none⟩)) rfl (by decide+kernel) (by decide+kernel) (by decide+kernel) rfl (fun _ _ _ h=>h) (.inl ⟨rfl,fun W hS=>by go_simp⟩) cb cf1 ?_
     refine wpAnyT_load (i:=7) (v:=.bool f) rfl (by decide+kernel) (by decide+kernel) (by decide+kernel) rfl (by decide+kernel) (by decide+kernel) rfl (fun _ _ _ h=>h) (.inl ⟨rfl,fun W hS=>by have hc:=hS.2;go_simp⟩) cb cf ?_
     refine wpAnyT_take (i:=8) (v:=.bool (!f)) rfl (by decide+kernel) (by decide+kernel) (by decide+kernel) rfl (fun _ _ _ h=>h) (.inl ⟨rfl,fun W hS=>by go_simp⟩) cb cf1 ?_
     refine wpAnyT_take (i:=9) (v:=.pointer (some ⟨b,0,none⟩)) rfl (by decide+kernel) (by decide+kernel) (by decide+kernel) rfl (fun _ _ _ h=>h) (.inl ⟨rfl,fun W hS=>by go_simp⟩) cb cf1 ?_
     refine wpAnyT_take (i:=10) (v:=.pointer (some ⟨b,1,none⟩)) rfl (by decide+kernel) (by decide+kernel) (by decide+kernel) rfl (fun _ _ _ h=>h) (.inl ⟨rfl,fun W hS=>by go_simp⟩) cb cf1 ?_
     refine wpAnyT_take (i:=11) (v:=.pointer (some ⟨b,1+kt,none⟩)) rfl (by decide+kernel) (by decide+kernel) (by decide+kernel) rfl (fun _ _ _ h=>h) (.inl ⟨rfl,fun W hS=>by go_simp⟩) cb cf1 ?_
     clear hkt hk
     refine wpAnyT_all (rs:=[12]) (by decide+kernel) (by simp) fun j hj=> ?_
     obtain rfl:j=12:=by simpa using hj
     clear hj
     refine heldOpT rfl fun K hK=> ?_
     go_wp2_with fail
     refine at_world (fun X=>SQ B b kv (WBf b gv rv wv nv) w (togS x.flags d) (.slice ga GL.length gc) rv wv nv (.slice ga GL.length gc) rv wv nv GL x.ret x.waits x.begun (⟨ti,(m:Int),(p:Int),ta,tb,tc,td⟩:Tk) X∧Chg (fun k=>k=b) x5 X) ⟨by rw[e1.out];exact(H5.out.tog hk8 (!f)).still (Chg.drew _ _),(Chg.set (F:=fun k=>k=b) x5 (a:=⟨b,1+kt,none⟩) _ rfl).trans (Chg.drew (fun _=>False) _) (fun _ _ e=>e.elim)⟩ fun x6 ⟨hx6,cx6⟩=> ?_
     refine hK.out _ _ ⟨cx6,fun n=>absurd (n 12 rfl) (by decide+kernel), ?_⟩
     refine wpAnyT_done (by decide+kernel) ?_ _
     go_wp2_with fail
     go_meet
     have nb:=n5 b (.inl rfl)
     exact⟨hx6,k5.chg cx6 (fun e=>nb.1 e.symm),kd.chg cx6 (fun e=>nb.2 e.symm),Nat.lt_of_lt_of_le z5 cx6.size⟩
    |false=>
     have hk:¬0≤d.turn%9-1:=by
      have:¬1≤d.turn%9:=of_decide_eq_false hb48
      omega
     clear hb48
     have e1:=Lib.hid (show togS x.flags d=x.flags by unfold togS;rw[if_neg hk])
     go_wp2_with fail
     go_meet
     rw[e1.out]
     exact⟨H5.out,k5,kd,z5⟩
   case rest=>
   obtain⟨hx6,k6,kd6,z6⟩:=hcut
   rename World=>x6
   have H6:=Lib.hid hx6
   clear hx6 H5 k5 kd z5
   have d3:x6.cell? ⟨q10,3,none⟩=some (.int .u8 d.beg):=kd6.c 3 _ rfl
   have b0:x6.cell? ⟨b,0,none⟩=some (.slice (some ⟨kb,ko,none⟩) x.kinds.length kc):=by rw[←hkv];exact H6.out.wx.box.c 0 _ rfl
   have kn:x.kinds.length≤9223372036854775807:=hkn
   have W:Hid (∀X:World,Calls Try.prog 86 #[.agg #[.int .u8 d.wait,.int .u8 d.obj,.int .u8 d.turn,.int .u8 d.beg]] X fun e w'=>e=.returned (.agg #[.int .i64 (waitS d).kind,.int .i64 (waitS d).obj,.int .i64 (waitS d).til])∧Below X.heap.size X w'):=Lib.hid (fun X=>wait_any d ⟨⟨w1,w2⟩,⟨o1,o2⟩,⟨u1,u2⟩,⟨b1,b2⟩⟩ X)
   have e2:=Lib.hid (show fsW x (⟨ti,(m:Int),(p:Int),ta,tb,tc,td⟩:Tk)=togS x.flags d by unfold fsW;rw[hds])
   have e3:=Lib.hid (show waW x (⟨ti,(m:Int),(p:Int),ta,tb,tc,td⟩:Tk)=waitS d by unfold waW;rw[hds])
   have e4:=Lib.hid (show beW x (⟨ti,(m:Int),(p:Int),ta,tb,tc,td⟩:Tk)=begW x.kinds d (⟨ti,(m:Int),(p:Int),ta,tb,tc,td⟩:Tk) by unfold beW;rw[hds])
   clear hds
   have kd0:=kd6.c 0 _ rfl
   have kd1:=kd6.c 1 _ rfl
   have kd2:=kd6.c 2 _ rfl
   have hq9:q9<x6.heap.size:=by omega
   by_cases hb1:1≤d.beg%12
   ·by_cases hb2:d.beg%12-1<x.kinds.length
    ·have e5:=Lib.hid (show begW x.kinds d (⟨ti,(m:Int),(p:Int),ta,tb,tc,td⟩:Tk)=[(⟨99,d.beg%12-1,0,ti,0,0,0⟩:Tk)] by unfold begW;rw[if_pos (by omega)])
     have ti0:x6.cell? ⟨w.heap.size,0,none⟩=some (.int .i64 ti):=H6.out.c.c 0 _ rfl
     have OL:Own tkR 35 x6.heap.size (x6.alloc (.cells #[.int .i64 99,.int .i64 (d.beg%12-1),.int .i64 0,.int .i64 ti,.int .i64 0,.int .i64 0,.int .i64 0] 35)) (.slice (some ⟨x6.heap.size,0,none⟩) 1 1) [(⟨99,d.beg%12-1,0,ti,0,0,0⟩:Tk)]:=Own.lit (R:=tkR) (cells:=[.int .i64 99,.int .i64 (d.beg%12-1),.int .i64 0,.int .i64 ti,.int .i64 0,.int .i64 0,.int .i64 0]) rfl (Nat.le_refl _) (Rep.many_one (R:=tkR) (x:=(⟨99,d.beg%12-1,0,ti,0,0,0⟩:Tk)) rfl) rfl (by decide)
     have hw6:w.heap.size≤(x6.alloc (.cells #[.int .i64 99,.int .i64 (d.beg%12-1),.int .i64 0,.int .i64 ti,.int .i64 0,.int .i64 0,.int .i64 0] 35)).heap.size:=by rw[World.size_alloc];have:=H6.out.sz;omega
     go_wp2_with (first
      |(at_builtin;refine wpList_append_sl _ rfl (.tmp 77) (.tmp 82) 69 rfl tkR w.heap.size 35 _ 56 Try.underlying69 infoK rfl (by decide) _ [] rfl (Own.nil tkR 35 w.heap.size _) _ [(⟨99,d.beg%12-1,0,ti,0,0,0⟩:Tk)] rfl OL.sl (by simp) (by decide) hw6 (fun w' _ cs y h=>tkR_flat _ _ _ _ h) ?_;intro ov y7 hov hgo hao;have AQ:=apQ_of hov hgo hao;clear hov hgo hao;obtain⟨oA,oc,rfl⟩:=AQ.form;have kY:=k6.chg AQ.cy id;have dY:=kd6.chg AQ.cy id;have dy0:=dY.c 0 _ rfl;have dy1:=dY.c 1 _ rfl;have dy2:=dY.c 2 _ rfl;have dy3:=dY.c 3 _ rfl;replace AQ:=Lib.hid AQ)
      |(go_at_call 86;refine(W.out _).mono ?_;rintro e x7 ⟨rfl,hb7⟩;have k7:=kY.later hb7;have a0:=k7.c 0 _ rfl;have a1:=k7.c 1 _ rfl;have a2:=k7.c 2 _ rfl;have f0:=k7.f 0;have f1:=k7.f 1;have f2:=k7.f 2))
     go_meet
     rw[e2.out,e3.out,e4.out,e5.out]
     have n9:=fun k hk=>(n5 k hk).1
     have c7:=AQ.out.cy.trans (Chg.of_below (F:=fun _=>False) hb7) (fun _ _=>id)
     exact⟨oA,oc,rfl,((H6.out.still c7).other (Chg.set3 x7 q9 _ _ _) (fun k e=>⟨by omega,fun hk=>n9 k hk e⟩)),k7.turn3 _ _ _,
      ⟨(AQ.out.own.chg tkR_flat (Chg.of_below (F:=fun _=>False) hb7) (fun _ _=>id)).chg tkR_flat (Chg.set3 x7 q9 _ _ _) (fun k hk e=>by have:=AQ.out.far k hk;omega),fun k hk=>by have:=AQ.out.far k hk;omega⟩,Nat.lt_of_lt_of_le k7.lt (Chg.set3 x7 q9 _ _ _).size⟩
    ·have e5:=Lib.hid (show begW x.kinds d (⟨ti,(m:Int),(p:Int),ta,tb,tc,td⟩:Tk)=[] by unfold begW;rw[if_neg (by omega)])
     go_wp2_with (go_at_call 86;refine(W.out _).mono ?_;rintro e x7 ⟨rfl,hb7⟩;have k7:=k6.later hb7;have a0:=k7.c 0 _ rfl;have a1:=k7.c 1 _ rfl;have a2:=k7.c 2 _ rfl;have f0:=k7.f 0;have f1:=k7.f 1;have f2:=k7.f 2)
     go_meet
     rw[e2.out,e3.out,e4.out,e5.out]
     have n9:=fun k hk=>(n5 k hk).1
     exact⟨none,0,rfl,((H6.out.still (.of_below hb7))).other (Chg.set3 x7 q9 _ _ _) (fun k e=>⟨by omega,fun hk=>n9 k hk e⟩),k7.turn3 _ _ _,⟨Own.nil _ _ _ _,fun k hk=>by simp[Value.ownBlock] at hk⟩,Nat.lt_of_lt_of_le k7.lt (Chg.set3 x7 q9 _ _ _).size⟩
   ·have e5:=Lib.hid (show begW x.kinds d (⟨ti,(m:Int),(p:Int),ta,tb,tc,td⟩:Tk)=[] by unfold begW;rw[if_neg (by omega)])
    go_wp2_with (go_at_call 86;refine(W.out _).mono ?_;rintro e x7 ⟨rfl,hb7⟩;have k7:=k6.later hb7;have a0:=k7.c 0 _ rfl;have a1:=k7.c 1 _ rfl;have a2:=k7.c 2 _ rfl;have f0:=k7.f 0;have f1:=k7.f 1;have f2:=k7.f 2)
    go_meet
    rw[e2.out,e3.out,e4.out,e5.out]
    have n9:=fun k hk=>(n5 k hk).1
    exact⟨none,0,rfl,((H6.out.still (.of_below hb7))).other (Chg.set3 x7 q9 _ _ _) (fun k e=>⟨by omega,fun hk=>n9 k hk e⟩),k7.turn3 _ _ _,⟨Own.nil _ _ _ _,fun k hk=>by simp[Value.ownBlock] at hk⟩,Nat.lt_of_lt_of_le k7.lt (Chg.set3 x7 q9 _ _ _).size⟩
  |false=>
   have hpl:¬p<l.length:=of_decide_eq_false hb36
   clear hb36
   have hdn:deedAt x.kinds (⟨ti,(m:Int),(p:Int),ta,tb,tc,td⟩:Tk)=none:=by rw[hdm];exact List.getElem?_eq_none (by omega)
   have e1:fsW x (⟨ti,(m:Int),(p:Int),ta,tb,tc,td⟩:Tk)=x.flags:=by unfold fsW;rw[hdn]
   have e2:waW x (⟨ti,(m:Int),(p:Int),ta,tb,tc,td⟩:Tk)=⟨2,0,0⟩:=by unfold waW;rw[hdn]
   have e3:beW x (⟨ti,(m:Int),(p:Int),ta,tb,tc,td⟩:Tk)=[]:=by unfold beW;rw[hdn]
   have E:=Lib.hid (And.intro e1 (And.intro e2 e3))
   clear e1 e2 e3 hdn hdm
   go_wp2_with fail
   go_meet
   rw[E.out.1,E.out.2.1,E.out.2.2]
   exact⟨none,0,rfl,H4.out,k4,⟨Own.nil _ _ _ _,fun k hk=>by simp[Value.ownBlock] at hk⟩,z4⟩
 case rest=>
 obtain⟨oA,oc,rfl,hx8,k9,⟨hov,hof⟩,z9⟩:=hcut
 rename World=>x8
 obtain⟨ob,hob⟩:∃ob,ob=beW x (⟨ti,(m:Int),(p:Int),ta,tb,tc,td⟩:Tk):=⟨_,rfl⟩
 rw[←hob] at hov hof⊢
 obtain⟨qw,hqw⟩:∃qw,qw=waW x (⟨ti,(m:Int),(p:Int),ta,tb,tc,td⟩:Tk):=⟨_,rfl⟩
 rw[←hqw] at k9
 have HOB:=Lib.hid hob
 have HQW:=Lib.hid hqw
 clear hob hqw
 have H8:=Lib.hid hx8
 clear hx8
 have t2:x8.cell? ⟨w.heap.size,2,none⟩=some (.int .i64 (p:Int)):=H8.out.c.c 2 _ rfl
 have f2:x8.frozen? ⟨w.heap.size,2,none⟩=false:=H8.out.c.f 2
 go_upto_region 15 with fail
 refine at_world (fun X=>SQ B b kv (WBf b gv rv wv nv) w (fsW x (⟨ti,(m:Int),(p:Int),ta,tb,tc,td⟩:Tk)) (.slice ga GL.length gc) rv wv nv (.slice ga GL.length gc) rv wv nv GL x.ret x.waits x.begun (⟨ti,(m:Int),(p:Int)+1,ta,tb,tc,td⟩:Tk) X∧Chg (fun k=>k=w.heap.size) x8 X) ⟨H8.out.task (Chg.set (F:=fun k=>k=w.heap.size) x8 (a:=⟨w.heap.size,2,none⟩) _ rfl) (H8.out.c.turn (j:=2) (by simp[Tk.cells]) _),Chg.set (F:=fun k=>k=w.heap.size) x8 (a:=⟨w.heap.size,2,none⟩) _ rfl⟩ fun x9 ⟨hx9,c9⟩=> ?_
 have l9:w.heap.size+3≤q9:=F4
 replace k9:=k9.chg c9 (by omega)
 have hog:∀k,(Value.slice oA ob.length oc).ownBlock=some k→k≠w.heap.size:=fun k hk=>by have:=hof k hk;omega
 replace hov:=hov.chg tkR_flat c9 (fun k hk e=>hog k hk e)
 have z99:q9<x9.heap.size:=Nat.lt_of_lt_of_le z9 c9.size
 have H9:=Lib.hid hx9
 have HOV:=Lib.hid hov
 have K9:=Lib.hid k9
 clear hx9 H8 t2 f2 hov k9 c9 z9
 have cq:Chg (fun k=>k=w.heap.size) x9 x9.drew:=Chg.drew _ _
 have c4:x9.cell? ⟨w.heap.size,4,none⟩=some (.int .i64 tb):=H9.out.c.c 4 _ rfl
 have f4:x9.frozen? ⟨w.heap.size,4,none⟩=false:=H9.out.c.f 4
 have cg9:x9.cell? ⟨b,9,none⟩=some (.slice ga GL.length gc):=H9.out.wx.cx (j:=0) rfl
 have nbq:b≠w.heap.size:=fun e=>by have:=H9.out.nw b (.inl rfl);omega
 refine wp_region_T (fun j=>j==9) (fun X=>Chg (fun k=>k=w.heap.size) x9 X) (fun X=>X.cell? ⟨w.heap.size,4,none⟩=some (.int .i64 tb)) (by kernel_rfl) ?_
 have cf1:∀{listed:Array Bool},NoLate (fun j=>j==9) listed→x9.drew.cell? ⟨w.heap.size,4,none⟩=some (.int .i64 tb):=fun _=>c4
 refine wpAnyT_take (i:=0) (v:=.pointer (some ⟨w.heap.size,4,none⟩)) rfl (by decide+kernel) (by decide+kernel) (by decide+kernel) rfl (fun _ _ _ h=>h) (.inl ⟨rfl,fun W hS=>by go_simp⟩) cq cf1 ?_
 refine wpAnyT_load (i:=1) (v:=.int .i64 tb) rfl (by decide+kernel) (by decide+kernel) (by decide+kernel) rfl (by decide+kernel) (by decide+kernel) rfl (fun _ _ _ h=>h) (.inl ⟨rfl,fun W hS=>by have hc:=hS.2;go_simp⟩) cq c4 ?_
 refine wpAnyT_take (i:=2) (v:=.pointer (some ⟨b,0,none⟩)) rfl (by decide+kernel) (by decide+kernel) (by decide+kernel) rfl (fun _ _ _ h=>h) (.inl ⟨rfl,fun W hS=>by go_simp⟩) cq cf1 ?_
 refine wpAnyT_take (i:=3) (v:=.pointer (some ⟨b,0,none⟩)) rfl (by decide+kernel) (by decide+kernel) (by decide+kernel) rfl (fun _ _ _ h=>h) (.inl ⟨rfl,fun W hS=>by go_simp⟩) cq cf1 ?_
 refine wpAnyT_take (i:=4) (v:=.pointer (some ⟨b,9,none⟩)) rfl (by decide+kernel) (by decide+kernel) (by decide+kernel) rfl (fun _ _ _ h=>h) (.inl ⟨rfl,fun W hS=>by go_simp⟩) cq cf1 ?_
 refine wpAnyT_take (i:=5) (v:=(.slice ga GL.length gc)) rfl (by decide+kernel) (by decide+kernel) (by decide+kernel) rfl (fun _ _ _ h=>h) (.inl ⟨rfl,fun W hS=>by have hc:=hS.cell cg9 nbq;go_simp⟩) cq cf1 ?_
 refine wpAnyT_take (i:=6) (v:=.int .i64 (GL.length:Int)) rfl (by decide+kernel) (by decide+kernel) (by decide+kernel) rfl (fun _ _ _ h=>h) (.inl ⟨rfl,fun W hS=>by go_simp⟩) cq cf1 ?_
 refine wpAnyT_take (i:=7) (v:=.int .i64 (wrap64 (tb+(GL.length:Int)))) rfl (by decide+kernel) (by decide+kernel) (by decide+kernel) rfl (fun _ _ _ h=>h) (.inl ⟨rfl,fun W hS=>by go_simp;exact IntWalk.i64_left _⟩) cq cf1 ?_
 refine wpAnyT_take (i:=8) (v:=.pointer (some ⟨w.heap.size,4,none⟩)) rfl (by decide+kernel) (by decide+kernel) (by decide+kernel) rfl (fun _ _ _ h=>h) (.inl ⟨rfl,fun W hS=>by go_simp⟩) cq cf1 ?_
 refine wpAnyT_all (rs:=[9]) (by decide+kernel) (by simp) fun j hj=> ?_
 obtain rfl:j=9:=by simpa using hj
 clear hj
 refine heldOpT rfl fun K hK=> ?_
 go_wp2_with fail
 obtain⟨T2,hT2⟩:∃T,T=(⟨ti,(m:Int),(p:Int)+1,ta,wrap64 (tb+(GL.length:Int)),tc,td⟩:Tk):=⟨_,rfl⟩
 refine at_world (fun X=>SQ B b kv (WBf b gv rv wv nv) w (fsW x (⟨ti,(m:Int),(p:Int),ta,tb,tc,td⟩:Tk)) (.slice ga GL.length gc) rv wv nv (.slice ga GL.length gc) rv wv nv GL x.ret x.waits x.begun T2 X∧Chg (fun k=>k=w.heap.size) x9 X) ⟨?_,(Chg.set (F:=fun k=>k=w.heap.size) x9 (a:=⟨w.heap.size,4,none⟩) _ rfl).trans (Chg.drew (fun _=>False) _) (fun _ _ e=>e.elim)⟩ fun x10 ⟨hx10,c10⟩=> ?_
 ·rw[hT2]
  exact(H9.out.task (T':=(⟨ti,(m:Int),(p:Int)+1,ta,wrap64 (tb+(GL.length:Int)),tc,td⟩:Tk)) (Chg.set (F:=fun k=>k=w.heap.size) x9 (a:=⟨w.heap.size,4,none⟩) (.int .i64 (wrap64 (tb+(GL.length:Int)))) rfl) (H9.out.c.turn (j:=4) (by simp[Tk.cells]) (.int .i64 (wrap64 (tb+(GL.length:Int)))))).still (Chg.drew _ _)
 refine hK.out _ _ ⟨c10,fun n=>absurd (n 9 rfl) (by decide+kernel), ?_⟩
 refine wpAnyT_done (by decide+kernel) ?_ _
 clear hK K
 have hov:=HOV.out.chg tkR_flat c10 (fun k hk e=>hog k hk e)
 have k9:=K9.out.chg c10 (by omega)
 have z10:q9<x10.heap.size:=Nat.lt_of_lt_of_le z99 c10.size
 have H10:=Lib.hid hx10
 clear hx10 c10 H9 c4 f4 cg9 HOV K9 cq cf1 z99
 have HOV:=Lib.hid hov
 have HOVb:=Lib.hid (show Bd (ob.length:Int) by obtain⟨_,_,e,h1,h2,_⟩:=hov.form;unfold Bd;constructor<;>omega)
 have K9:=Lib.hid k9
 have HT2:=Lib.hid hT2
 clear hov k9 hT2
 go_wp2_with fail
 refine wp_region_ops (ops':=((opsIn 16 (Try.f81.body.getD .skip)).getD #[])) (by kernel_rfl) ?_
 refine reg16 (T:=T2) (qw:=qw) (on:=ob.length) (q9:=q9) (q:=w.heap.size) (oA:=oA) (oc:=oc) (p4:=.pointer (some ⟨w.heap.size+1,0,none⟩)) (p5:=.pointer (some ⟨w.heap.size+1+1,0,none⟩)) (p6:=.slice none 0 0) (fun c a i v w h=>by cases i<;>exact h)
  ⟨rfl,rfl,fun i v h=>by simp only[List.mem_cons,List.not_mem_nil,or_false,Prod.mk.injEq] at h;rcases h with⟨rfl,rfl⟩|⟨rfl,rfl⟩|⟨rfl,rfl⟩|⟨rfl,rfl⟩|⟨rfl,rfl⟩|⟨rfl,rfl⟩|⟨rfl,rfl⟩<;>rfl⟩ H10.out rfl K9.out F3 (by omega) (by omega) (by omega) HOVb.out (fun a' rv' wv' nv' X E hX hC=> ?_)
 have e:=E.form
 simp only[show List.range 134=[0,1,2,3,4,5,6,7,8,9,10,11,12,13,14,15,16,17,18,19,20,21,22,23,24,25,26,27,28,29,30,31,32,33,34,35,36,37,38,39,40,41,42,43,44,45,46,47,48,49,50,51,52,53,54,55,56,57,58,59,60,61,62,63,64,65,66,67,68,69,70,71,72,73,74,75,76,77,78,79,80,81,82,83,84,85,86,87,88,89,90,91,92,93,94,95,96,97,98,99,100,101,102,103,104,105,106,107,108,109,110,111,112,113,114,115,116,117,118,119,120,121,122,123,124,125,126,127,128,129,130,131,132,133] from rfl,List.map_cons,List.map_nil,E.at 0 rfl,E.at 1 rfl,E.at 2 rfl,E.at 3 rfl,E.at 4 rfl,E.at 5 rfl,E.at 6 rfl] at e
 generalize a'.eval (.tmp 1)=Y1 at e
 generalize a'.eval (.tmp 2)=Jm at e
 generalize a'.eval (.tmp 7)=Qj at e
 generalize a'.eval (.tmp 10)=Qt at e
 generalize a'.eval (.tmp 11)=J4 at e
 generalize a'.eval (.tmp 12)=Jt at e
 generalize a'.eval (.tmp 13)=Qg at e
 generalize a'.eval (.tmp 14)=Js at e
 generalize a'.eval (.tmp 15)=Yd at e
 generalize a'.eval (.tmp 16)=Ys at e
 generalize a'.eval (.tmp 17)=Jv at e
 generalize a'.eval (.tmp 18)=Jb at e
 generalize a'.eval (.tmp 19)=Jy at e
 generalize a'.eval (.tmp 20)=Vj at e
 generalize a'.eval (.tmp 21)=Y0 at e
 generalize a'.eval (.tmp 22)=Jz at e
 generalize a'.eval (.tmp 23)=Qn at e
 generalize a'.eval (.tmp 24)=Jl at e
 generalize a'.eval (.tmp 25)=Y6 at e
 generalize a'.eval (.tmp 26)=Vg at e
 generalize a'.eval (.tmp 27)=Yn at e
 generalize a'.eval (.tmp 28)=Vs at e
 generalize a'.eval (.tmp 29)=Ja at e
 generalize a'.eval (.tmp 30)=Y4 at e
 generalize a'.eval (.tmp 31)=Jd at e
 generalize a'.eval (.tmp 32)=Qq at e
 generalize a'.eval (.tmp 33)=Q9 at e
 generalize a'.eval (.tmp 34)=J1 at e
 generalize a'.eval (.tmp 35)=Yq at e
 generalize a'.eval (.tmp 36)=Yy at e
 generalize a'.eval (.tmp 37)=Jh at e
 generalize a'.eval (.tmp 38)=Q7 at e
 generalize a'.eval (.tmp 39)=J8 at e
 generalize a'.eval (.tmp 40)=Y5 at e
 generalize a'.eval (.tmp 41)=Vl at e
 generalize a'.eval (.tmp 42)=Qz at e
 generalize a'.eval (.tmp 43)=Qr at e
 generalize a'.eval (.tmp 44)=Y2 at e
 generalize a'.eval (.tmp 45)=Yb at e
 generalize a'.eval (.tmp 46)=Yx at e
 generalize a'.eval (.tmp 47)=Q4 at e
 generalize a'.eval (.tmp 48)=Jw at e
 generalize a'.eval (.tmp 49)=Ye at e
 generalize a'.eval (.tmp 50)=Jk at e
 generalize a'.eval (.tmp 51)=Qh at e
 generalize a'.eval (.tmp 52)=Qf at e
 generalize a'.eval (.tmp 53)=Yt at e
 generalize a'.eval (.tmp 54)=Q3 at e
 generalize a'.eval (.tmp 55)=J5 at e
 generalize a'.eval (.tmp 56)=Qc at e
 generalize a'.eval (.tmp 57)=Jn at e
 generalize a'.eval (.tmp 58)=Qp at e
 generalize a'.eval (.tmp 59)=J3 at e
 generalize a'.eval (.tmp 60)=Jj at e
 generalize a'.eval (.tmp 61)=Yk at e
 generalize a'.eval (.tmp 62)=Vn at e
 generalize a'.eval (.tmp 63)=Qx at e
 generalize a'.eval (.tmp 64)=Qo at e
 generalize a'.eval (.tmp 65)=Jx at e
 generalize a'.eval (.tmp 66)=Vr at e
 generalize a'.eval (.tmp 67)=Yg at e
 generalize a'.eval (.tmp 68)=Y7 at e
 generalize a'.eval (.tmp 69)=Jg at e
 generalize a'.eval (.tmp 70)=Y8 at e
 generalize a'.eval (.tmp 71)=Vf at e
 generalize a'.eval (.tmp 72)=Qw at e
 generalize a'.eval (.tmp 73)=Y9 at e
 generalize a'.eval (.tmp 74)=J9 at e
 generalize a'.eval (.tmp 75)=Ve at e
 generalize a'.eval (.tmp 76)=Qe at e
 generalize a'.eval (.tmp 77)=Yr at e
 generalize a'.eval (.tmp 78)=Qy at e
 generalize a'.eval (.tmp 79)=Vp at e
 generalize a'.eval (.tmp 80)=Qu at e
 generalize a'.eval (.tmp 81)=Qi at e
 generalize a'.eval (.tmp 82)=Vo at e
 generalize a'.eval (.tmp 83)=Ju at e
 generalize a'.eval (.tmp 84)=Yu at e
 generalize a'.eval (.tmp 85)=Jo at e
 generalize a'.eval (.tmp 86)=Jq at e
 generalize a'.eval (.tmp 87)=Yv at e
 generalize a'.eval (.tmp 88)=Yw at e
 generalize a'.eval (.tmp 89)=Qa at e
 generalize a'.eval (.tmp 90)=Jf at e
 generalize a'.eval (.tmp 91)=Yp at e
 generalize a'.eval (.tmp 92)=Je at e
 generalize a'.eval (.tmp 93)=Yh at e
 generalize a'.eval (.tmp 94)=J6 at e
 generalize a'.eval (.tmp 95)=Qb at e
 generalize a'.eval (.tmp 96)=Ji at e
 generalize a'.eval (.tmp 97)=Jc at e
 generalize a'.eval (.tmp 98)=Vq at e
 generalize a'.eval (.tmp 99)=Vm at e
 generalize a'.eval (.tmp 100)=Yz at e
 generalize a'.eval (.tmp 101)=Qs at e
 generalize a'.eval (.tmp 102)=Yj at e
 generalize a'.eval (.tmp 103)=Vc at e
 generalize a'.eval (.tmp 104)=J2 at e
 generalize a'.eval (.tmp 105)=Vi at e
 generalize a'.eval (.tmp 106)=Vk at e
 generalize a'.eval (.tmp 107)=Y3 at e
 generalize a'.eval (.tmp 108)=Ql at e
 generalize a'.eval (.tmp 109)=Qk at e
 generalize a'.eval (.tmp 110)=Vb at e
 generalize a'.eval (.tmp 111)=Vh at e
 generalize a'.eval (.tmp 112)=Ym at e
 generalize a'.eval (.tmp 113)=Ya at e
 generalize a'.eval (.tmp 114)=Q2 at e
 generalize a'.eval (.tmp 115)=Yf at e
 generalize a'.eval (.tmp 116)=Yc at e
 generalize a'.eval (.tmp 117)=Yl at e
 generalize a'.eval (.tmp 118)=Yo at e
 generalize a'.eval (.tmp 119)=Q8 at e
 generalize a'.eval (.tmp 120)=Q5 at e
 generalize a'.eval (.tmp 121)=Jp at e
 generalize a'.eval (.tmp 122)=J7 at e
 generalize a'.eval (.tmp 123)=Qm at e
 generalize a'.eval (.tmp 124)=Yi at e
 generalize a'.eval (.tmp 125)=Qd at e
 generalize a'.eval (.tmp 126)=Va at e
 generalize a'.eval (.tmp 127)=Q0 at e
 generalize a'.eval (.tmp 128)=J0 at e
 generalize a'.eval (.tmp 129)=Q1 at e
 generalize a'.eval (.tmp 130)=Qv at e
 generalize a'.eval (.tmp 131)=Q6 at e
 generalize a'.eval (.tmp 132)=Vd at e
 generalize a'.eval (.tmp 133)=Jr at e
 rw[e]
 clear e E
 obtain⟨TT,hTT⟩:∃T,T=(⟨ti,(m:Int),(p:Int)+1,ta,wrap64 (tb+(GL.length:Int)),tc,td⟩:Tk):=⟨_,rfl⟩
 have h2e:=HT2.out
 subst h2e
 have hov:=HOV.out.chg tkR_flat hC (fun k hk e=>by have:=hof k hk;have:=F3 k e;omega)
 have k9:=K9.out.chg hC (fun e=>by have:=F3 _ e;omega)
 have hn:=hX.nw
 have ho:=hX.od
 have hc0:X.cell? ⟨w.heap.size,0,none⟩=some (.int .i64 ti):=hX.c.c 0 _ rfl
 have hf0:X.frozen? ⟨w.heap.size,0,none⟩=false:=hX.c.f 0
 go_upto_region 18 with fail
 have c17:=Chg.set (F:=fun k=>k=w.heap.size) X (a:=⟨w.heap.size,0,none⟩) (.int .i64 (-5)) rfl
 refine at_world (fun Y=>SQ B b kv (WBf b gv rv wv nv) w (fsW x (⟨ti,(m:Int),(p:Int),ta,tb,tc,td⟩:Tk)) (.slice ga GL.length gc) rv' wv' nv' (.slice ga GL.length gc) rv' wv' nv' GL (x.ret++[(⟨ti,(m:Int),(p:Int)+1,ta,wrap64 (tb+(GL.length:Int)),tc,td⟩:Tk)]) (x.waits++[qw]) (x.begun++[(ob.length:Int)]) (⟨-5,(m:Int),(p:Int)+1,ta,wrap64 (tb+(GL.length:Int)),tc,td⟩:Tk) Y∧Chg (fun k=>k=w.heap.size) X Y) ⟨hX.task (T':=(⟨-5,(m:Int),(p:Int)+1,ta,wrap64 (tb+(GL.length:Int)),tc,td⟩:Tk)) c17 (hX.c.turn (j:=0) (by simp[Tk.cells]) (.int .i64 (-5))),c17⟩ fun x11 ⟨hx11,c11⟩=> ?_
 have hov2:=hov.chg tkR_flat c11 (fun k hk e=>by have:=hof k hk;omega)
 have k92:=k9.chg c11 (by omega)
 clear hX c17 hc0 hf0 hC hov k9
 have H11:=Lib.hid hx11
 have HOV2:=Lib.hid hov2
 have K92:=Lib.hid k92
 clear hx11 hov2 k92 c11 HOV K9 H10
 obtain⟨e1,le1,he1⟩:=H11.out.c1
 obtain⟨e2,le2,he2⟩:=H11.out.c2
 have HE1:=Lib.hid he1
 have HE2:=Lib.hid he2
 clear he1 he2
 refine wp_region_T (fun _=>false) (fun X=>Chg (fun k=>k=w.heap.size+1∨k=w.heap.size+1+1) x11 X) (fun _=>True) (by kernel_rfl) ?_
 have S18:Chg (fun k=>k=w.heap.size+1∨k=w.heap.size+1+1) x11 x11.drew:=Chg.drew _ _
 refine wpAnyT_take (i:=0) rfl (by decide+kernel) (by decide+kernel) (by decide+kernel) rfl (fun _ _ _ h=>h) (yieldsIf_load_mid rfl 35 (.tmp 3) rfl (w.heap.size) (0) rfl ([.int .i64 (-5),.int .i64 (m:Int),.int .i64 ((p:Int)+1),.int .i64 ta,.int .i64 (wrap64 (tb+(GL.length:Int))),.int .i64 tc,.int .i64 td]) _ (fun X hX=>(H11.out.c.chg hX (by omega)).range) Try.underlying35 rfl (by kernel_rfl)) S18 (fun _=>trivial) ?_
 refine wpAnyT_take (i:=1) rfl (by decide+kernel) (by decide+kernel) (by decide+kernel) rfl (fun _ _ _ h=>h) (yieldsIf_load_mid rfl 37 (.tmp 9) rfl (q9) (0) rfl ([.int .i64 qw.kind,.int .i64 qw.obj,.int .i64 qw.til]) _ (fun X hX=>(K92.out.chg hX (by omega)).range) Try.underlying37 rfl (by kernel_rfl)) S18 (fun _=>trivial) ?_
 refine wpAnyT_take (i:=2) (v:=.slice oA ob.length oc) rfl (by decide+kernel) (by decide+kernel) (by decide+kernel) rfl (fun _ _ _ h=>h) (.inl ⟨rfl,fun W hS=>by go_simp⟩) S18 (fun _=>trivial) ?_
 refine wpAnyT_all (rs:=[3]) (by decide+kernel) (by simp) fun j hj=> ?_
 obtain rfl:j=3:=by simpa using hj
 clear hj
 refine heldOpT rfl fun K hK=> ?_
 refine wpList_store_mid rfl 35 (.tmp 4) (.tmp 131) rfl (w.heap.size+1) 0 #[.int .i64 (-5),.int .i64 (m:Int),.int .i64 ((p:Int)+1),.int .i64 ta,.int .i64 (wrap64 (tb+(GL.length:Int))),.int .i64 tc,.int .i64 td] rfl rfl ((HE1.out.chg (Chg.drew (fun _=>False) _) id).there (by first|exact le1|simp[le1])) (by kernel_rfl) (by simp[Value.oneCell']) ?_
 have cz:=S18.trans ((Chg.setCells (w.heap.size+1) [.int .i64 (-5),.int .i64 (m:Int),.int .i64 ((p:Int)+1),.int .i64 ta,.int .i64 (wrap64 (tb+(GL.length:Int))),.int .i64 tc,.int .i64 td] 0 x11.drew).mono (G:=(fun k=>k=w.heap.size+1∨k=w.heap.size+1+1)) (fun k _ e=>by first|exact .inl e|exact .inr e)) (fun _ _ e=>e)
 have rz:Cells (x11.drew.setCells (w.heap.size+1) 0 [.int .i64 (-5),.int .i64 (m:Int),.int .i64 ((p:Int)+1),.int .i64 ta,.int .i64 (wrap64 (tb+(GL.length:Int))),.int .i64 tc,.int .i64 td]) (w.heap.size+1) [.int .i64 (-5),.int .i64 (m:Int),.int .i64 ((p:Int)+1),.int .i64 ta,.int .i64 (wrap64 (tb+(GL.length:Int))),.int .i64 tc,.int .i64 td]:=(HE1.out.chg (Chg.drew (fun _=>False) _) id).over le1
 refine at_world (fun Y=>Chg (fun k=>k=w.heap.size+1∨k=w.heap.size+1+1) x11 Y∧Cells Y (w.heap.size+1) [.int .i64 (-5),.int .i64 (m:Int),.int .i64 ((p:Int)+1),.int .i64 ta,.int .i64 (wrap64 (tb+(GL.length:Int))),.int .i64 tc,.int .i64 td]∧Cells Y (w.heap.size+1+1) e2) ⟨cz,rz,(HE2.out.chg (Chg.drew (fun _=>False) _) id).chg (Chg.setCells (w.heap.size+1) [.int .i64 (-5),.int .i64 (m:Int),.int .i64 ((p:Int)+1),.int .i64 ta,.int .i64 (wrap64 (tb+(GL.length:Int))),.int .i64 tc,.int .i64 td] 0 x11.drew) (by omega)⟩ fun x12 ⟨c12,r1,r2⟩=> ?_
 clear cz rz
 go_wp2_with fail
 refine hK.out _ _ ⟨c12,fun _=>trivial, ?_⟩
 clear hK K
 refine wpAnyT_all (rs:=[4]) (by decide+kernel) (by simp) fun j hj=> ?_
 obtain rfl:j=4:=by simpa using hj
 clear hj
 refine heldOpT rfl fun K hK=> ?_
 refine wpList_store_mid rfl 37 (.tmp 5) (.tmp 132) rfl (w.heap.size+1+1) 0 #[.int .i64 qw.kind,.int .i64 qw.obj,.int .i64 qw.til] rfl rfl (r2.there (by first|exact le2|simp[le2])) (by kernel_rfl) (by simp[Value.oneCell']) ?_
 have cz:=c12.trans ((Chg.setCells (w.heap.size+1+1) [.int .i64 qw.kind,.int .i64 qw.obj,.int .i64 qw.til] 0 x12).mono (G:=(fun k=>k=w.heap.size+1∨k=w.heap.size+1+1)) (fun k _ e=>by first|exact .inl e|exact .inr e)) (fun _ _ e=>e)
 have rz:Cells (x12.setCells (w.heap.size+1+1) 0 [.int .i64 qw.kind,.int .i64 qw.obj,.int .i64 qw.til]) (w.heap.size+1+1) [.int .i64 qw.kind,.int .i64 qw.obj,.int .i64 qw.til]:=r2.over le2
 refine at_world (fun Y=>Chg (fun k=>k=w.heap.size+1∨k=w.heap.size+1+1) x11 Y∧Cells Y (w.heap.size+1) [.int .i64 (-5),.int .i64 (m:Int),.int .i64 ((p:Int)+1),.int .i64 ta,.int .i64 (wrap64 (tb+(GL.length:Int))),.int .i64 tc,.int .i64 td]∧Cells Y (w.heap.size+1+1) [.int .i64 qw.kind,.int .i64 qw.obj,.int .i64 qw.til]) ⟨cz,r1.chg (Chg.setCells (w.heap.size+1+1) [.int .i64 qw.kind,.int .i64 qw.obj,.int .i64 qw.til] 0 x12) (by omega),rz⟩ fun x13 ⟨c13,r3,r4⟩=> ?_
 clear cz rz
 go_wp2_with fail
 refine hK.out _ _ ⟨c13,fun _=>trivial, ?_⟩
 clear hK K
 refine wpAnyT_all (rs:=[5]) (by decide+kernel) (by simp) fun j hj=> ?_
 obtain rfl:j=5:=by simpa using hj
 clear hj
 refine heldOpT rfl fun K hK=> ?_
 go_wp2_with fail
 refine hK.out _ _ ⟨c13,fun _=>trivial, ?_⟩
 clear hK K
 refine wpAnyT_done (by decide+kernel) ?_ _
 go_wp2_with fail
 have m0:=r3.c 0 _ rfl
 have m1:=r3.c 1 _ rfl
 have m2:=r3.c 2 _ rfl
 have m3:=r3.c 3 _ rfl
 have m4:=r3.c 4 _ rfl
 have m5:=r3.c 5 _ rfl
 have m6:=r3.c 6 _ rfl
 have n0:=r4.c 0 _ rfl
 have n1:=r4.c 1 _ rfl
 have n2:=r4.c 2 _ rfl
 have hGl:(GL.length:Int)=((x.given.length+1:Nat):Int):=by rw[HGL.out];simp
 have eT:(⟨ti,(m:Int),(p:Int)+1,ta,wrap64 (tb+(GL.length:Int)),tc,td⟩:Tk)=tkW x (⟨ti,(m:Int),(p:Int),ta,tb,tc,td⟩:Tk):=by simp only[tkW,hGl]
 refine bodyPost_ret (v:=.tuple #[.agg #[.int .i64 (-5),.int .i64 (m:Int),.int .i64 ((p:Int)+1),.int .i64 ta,.int .i64 (wrap64 (tb+(GL.length:Int))),.int .i64 tc,.int .i64 td],.agg #[.int .i64 qw.kind,.int .i64 qw.obj,.int .i64 qw.til],.slice oA ob.length oc]) (by simp[results,Try.results81,go_sem,m0,m1,m2,m3,m4,m5,m6,n0,n1,n2]) rfl ⟨(.slice ga GL.length gc),rv',wv',nv',oA,ob.length,oc, ?_, ?_, ?_, ?_, ?_⟩
 ·simp only[stW,tkW,←HQW.out,hGl,Wa.cells]
 ·rw[←HOB.out]
  exact HOV2.out.chg tkR_flat c13 (fun k hk e=>by have:=hof k hk;omega)
 ·rw[←HGL.out,←HQW.out,←HOB.out,←eT]
  exact H11.out.wx.chg c13 (fun k hk e=>by have:=hn k hk;omega)
 ·exact H11.out.ch.trans c13 (fun k hk e=>by omega)
 ·exact ho
end Go.Proofs.Ytlngbdggehghgaa

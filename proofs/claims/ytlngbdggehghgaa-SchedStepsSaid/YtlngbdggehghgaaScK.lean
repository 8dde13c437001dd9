/-
  A step of the document's world. Conditions: as each theorem says.
-/
import Derived.Test.YtlngbdggehghgaaScJ
import Derived.Deep.MidRow
import Derived.Deep.CutRange
namespace Go.Proofs.Ytlngbdggehghgaa
set_option linter.unusedSimpArgs false
set_option linter.unusedVariables false
open Go.RowKit
theorem Cells.range {w:World} {b:Nat} {cs:List Value} (h:Cells w b cs):w.rangeAt b 0 cs:=fun j v hv=>by rw[Nat.zero_add];exact h.c j v hv
def deedAt (ks:List (List De)) (t:Tk):Option De:=((ks[t.kind.toNat]?).getD [])[t.pc.toNat]?
def togS (fs:List Bool) (d:De):List Bool:=if 0≤d.turn%9-1 then fs.set (d.turn%9-1).toNat (!(fs[(d.turn%9-1).toNat]?).getD false) else fs
def begW (ks:List (List De)) (d:De) (t:Tk):List Tk:=if 0≤d.beg%12-1∧d.beg%12-1<ks.length then[⟨99,d.beg%12-1,0,t.id,0,0,0⟩] else[]
def tkW (x:RW) (t:Tk):Tk:={t with pc:=t.pc+1,b:=wrap64 (t.b+((x.given.length+1:Nat):Int))}
def waW (x:RW) (t:Tk):Wa:=match deedAt x.kinds t with|some d=>waitS d|none=>⟨2,0,0⟩
def beW (x:RW) (t:Tk):List Tk:=match deedAt x.kinds t with|some d=>begW x.kinds d t|none=>[]
def fsW (x:RW) (t:Tk):List Bool:=match deedAt x.kinds t with|some d=>togS x.flags d|none=>x.flags
def stW (x:RW) (t:Tk):Tk×Wa×List Tk×RW:=
 ({tkW x t with id:= -5},waW x t,beW x t,⟨x.kinds,fsW x t,x.given++[t],x.ret++[tkW x t],x.waits++[waW x t],x.begun++[((beW x t).length:Int)]⟩)
theorem infoK:(Try.prog.info? 35).map (fun i=>(i.zero,i.size,i.bytes))=some (some (.agg #[.int .i64 0,.int .i64 0,.int .i64 0,.int .i64 0,.int .i64 0,.int .i64 0,.int .i64 0]),tkR.size,56):=by kernel_rfl
theorem infoWa:(Try.prog.info? 37).map (fun i=>(i.zero,i.size,i.bytes))=some (some (.agg #[.int .i64 0,.int .i64 0,.int .i64 0]),waR.size,24):=by kernel_rfl
structure SQ (B b:Nat) (kv:Value) (F0:Nat→Prop) (w:World) (fs:List Bool) (c9 c10 c11 c12 gv rv wv nv:Value) (gl rl:List Tk) (wl:List Wa) (nl:List Int) (T:Tk) (x:World):Prop where
 wx:WX B b kv fs c9 c10 c11 c12 gv rv wv nv gl rl wl nl x
 c:Cells x w.heap.size T.cells
 c1:∃cs,cs.length=7∧Cells x (w.heap.size+1) cs
 c2:∃cs,cs.length=3∧Cells x (w.heap.size+2) cs
 nw:∀k,WBf b gv rv wv nv k→k<w.heap.size∨w.heap.size+3≤k
 od:∀k,WBf b gv rv wv nv k→F0 k∨w.heap.size≤k
 sz:w.heap.size+3≤x.heap.size
 ch:Chg F0 w x
 bB:B≤w.heap.size
section
variable {B b:Nat} {kv:Value} {F0 G:Nat→Prop} {w:World} {fs fs':List Bool} {c9 c10 c11 c12 gv rv wv nv c9' c10' c11' c12' gv' rv' wv' nv':Value} {gl rl gl' rl':List Tk} {wl wl':List Wa} {nl nl':List Int} {T T':Tk} {x x':World}
theorem SQ.move (h:SQ B b kv F0 w fs c9 c10 c11 c12 gv rv wv nv gl rl wl nl T x) (hw:WX B b kv fs' c9' c10' c11' c12' gv' rv' wv' nv' gl' rl' wl' nl' x') (c:Chg G x x') (hG:∀k,G k→WBf b gv rv wv nv k)
 (hn:∀k,WBf b gv' rv' wv' nv' k→WBf b gv rv wv nv k∨x.heap.size≤k):SQ B b kv F0 w fs' c9' c10' c11' c12' gv' rv' wv' nv' gl' rl' wl' nl' T x':=by
 obtain⟨c1,l1,h1⟩:=h.c1
 obtain⟨c2,l2,h2⟩:=h.c2
 have a0:¬G w.heap.size:=fun e=>by have:=h.nw _ (hG _ e);omega
 have a1:¬G (w.heap.size+1):=fun e=>by have:=h.nw _ (hG _ e);omega
 have a2:¬G (w.heap.size+2):=fun e=>by have:=h.nw _ (hG _ e);omega
 have sz:=h.sz
 exact⟨hw,h.c.chg c a0,⟨c1,l1,h1.chg c a1⟩,⟨c2,l2,h2.chg c a2⟩,fun k hk=>(hn k hk).elim (h.nw k) (fun e=> .inr (by omega)),fun k hk=>(hn k hk).elim (h.od k) (fun e=> .inr (by omega)),Nat.le_trans sz c.size,
  h.ch.trans c (fun k hk e=>(h.od k (hG k e)).elim id fun e=>by omega),h.bB⟩
theorem SQ.still (h:SQ B b kv F0 w fs c9 c10 c11 c12 gv rv wv nv gl rl wl nl T x) (c:Chg (fun _=>False) x x'):SQ B b kv F0 w fs c9 c10 c11 c12 gv rv wv nv gl rl wl nl T x':=
 h.move (h.wx.chg c fun _ _=>id) c (fun _ e=>e.elim) fun _=> .inl
theorem SQ.task (h:SQ B b kv F0 w fs c9 c10 c11 c12 gv rv wv nv gl rl wl nl T x) (c:Chg (fun k=>k=w.heap.size) x x') (hc:Cells x' w.heap.size T'.cells):SQ B b kv F0 w fs c9 c10 c11 c12 gv rv wv nv gl rl wl nl T' x':=by
 obtain⟨c1,l1,h1⟩:=h.c1
 obtain⟨c2,l2,h2⟩:=h.c2
 exact⟨h.wx.chg c (fun k hk e=>by have:=h.nw k hk;omega),hc,⟨c1,l1,h1.chg c (by omega)⟩,⟨c2,l2,h2.chg c (by omega)⟩,h.nw,h.od,Nat.le_trans h.sz c.size,h.ch.trans c (fun k hk e=>by omega),h.bB⟩
theorem SQ.other (h:SQ B b kv F0 w fs c9 c10 c11 c12 gv rv wv nv gl rl wl nl T x) (c:Chg G x x') (hG:∀k,G k→w.heap.size+3≤k∧¬WBf b gv rv wv nv k):SQ B b kv F0 w fs c9 c10 c11 c12 gv rv wv nv gl rl wl nl T x':=by
 obtain⟨c1,l1,h1⟩:=h.c1
 obtain⟨c2,l2,h2⟩:=h.c2
 exact⟨h.wx.chg c (fun k hk e=>(hG k e).2 hk),h.c.chg c (fun e=>by have:=(hG _ e).1;omega),⟨c1,l1,h1.chg c (fun e=>by have:=(hG _ e).1;omega)⟩,⟨c2,l2,h2.chg c (fun e=>by have:=(hG _ e).1;omega)⟩,h.nw,h.od,Nat.le_trans h.sz c.size,
  h.ch.trans c (fun k hk e=>by have:=(hG k e).1;omega),h.bB⟩
theorem Chg.set3 (w:World) (q:Nat) (a b c:Value):Chg (fun k=>k=q) w (((w.setCell ⟨q,0,none⟩ a).setCell ⟨q,1,none⟩ b).setCell ⟨q,2,none⟩ c):=
 ((Chg.set (F:=fun k=>k=q) w (a:=⟨q,0,none⟩) a rfl).trans (Chg.set (F:=fun k=>k=q) _ (a:=⟨q,1,none⟩) b rfl) (fun _ _ h=>h)).trans (Chg.set (F:=fun k=>k=q) _ (a:=⟨q,2,none⟩) c rfl) (fun _ _ h=>h)
theorem Cells.turn3 {w:World} {q:Nat} {u1 u2 u3:Value} (h:Cells w q [u1,u2,u3]) (a b c:Value):Cells (((w.setCell ⟨q,0,none⟩ a).setCell ⟨q,1,none⟩ b).setCell ⟨q,2,none⟩ c) q [a,b,c]:=
 ((h.turn (j:=0) (by simp) a).turn (j:=1) (by simp) b).turn (j:=2) (by simp) c
structure ApQ (B:Nat) (x:World) (T:Tk) (ov:Value) (y:World):Prop where
 cy:Chg (fun _=>False) x y
 own:Own tkR 35 B y ov [T]
 far:∀k,ov.ownBlock=some k→x.heap.size≤k
theorem apQ_of {B:Nat} {x y:World} {T:Tk} {o:Obj} {ov:Value} (hov:Own tkR 35 B y ov ([]++[T])) (hg:(x.alloc o).grownBy y (Value.slice none 0 0).ownBlock) (ha:ov.ownBlock=(Value.slice none 0 0).ownBlock∨ov.ownBlock=some (x.alloc o).heap.size):ApQ B x T ov y:=by
 refine⟨(Chg.alloc _ _ _).trans (Chg.grown hg (fun k e=>by simp[Value.ownBlock] at e)) (fun _ _=>id),hov,fun k hk=> ?_⟩
 rcases ha with ha|ha
 ·rw[ha] at hk;simp[Value.ownBlock] at hk
 ·rw[ha,World.size_alloc] at hk
  have:=Option.some.inj hk
  omega
theorem ApQ.form {B:Nat} {x y:World} {T:Tk} {ov:Value} (h:ApQ B x T ov y):∃A c,ov=.slice A 1 c:=by
 obtain⟨A,c,e,_⟩:=h.own.form
 exact⟨A,c,e⟩
theorem SQ.set9 (h:SQ B b kv F0 w fs c9 c10 c11 c12 gv rv wv nv gl rl wl nl T x):SQ B b kv F0 w fs gv c10 c11 c12 gv rv wv nv gl rl wl nl T (x.setCell ⟨b,9,none⟩ gv):=
 h.move h.wx.set9 (Chg.set (F:=fun k=>k=b) x (a:=⟨b,9,none⟩) gv rfl) (fun _ e=> .inl e) fun _=> .inl
theorem SQ.set10 (h:SQ B b kv F0 w fs c9 c10 c11 c12 gv rv wv nv gl rl wl nl T x):SQ B b kv F0 w fs c9 rv c11 c12 gv rv wv nv gl rl wl nl T (x.setCell ⟨b,10,none⟩ rv):=
 h.move h.wx.set10 (Chg.set (F:=fun k=>k=b) x (a:=⟨b,10,none⟩) rv rfl) (fun _ e=> .inl e) fun _=> .inl
theorem SQ.set11 (h:SQ B b kv F0 w fs c9 c10 c11 c12 gv rv wv nv gl rl wl nl T x):SQ B b kv F0 w fs c9 c10 wv c12 gv rv wv nv gl rl wl nl T (x.setCell ⟨b,11,none⟩ wv):=
 h.move h.wx.set11 (Chg.set (F:=fun k=>k=b) x (a:=⟨b,11,none⟩) wv rfl) (fun _ e=> .inl e) fun _=> .inl
theorem SQ.set12 (h:SQ B b kv F0 w fs c9 c10 c11 c12 gv rv wv nv gl rl wl nl T x):SQ B b kv F0 w fs c9 c10 c11 nv gv rv wv nv gl rl wl nl T (x.setCell ⟨b,12,none⟩ nv):=
 h.move h.wx.set12 (Chg.set (F:=fun k=>k=b) x (a:=⟨b,12,none⟩) nv rfl) (fun _ e=> .inl e) fun _=> .inl
theorem SQ.app9 (h:SQ B b kv F0 w fs c9 c10 c11 c12 gv rv wv nv gl rl wl nl T x) (ho:Own tkR 35 B x' gv' gl') (hg:x.grownBy x' gv.ownBlock) (ha:gv'.ownBlock=gv.ownBlock∨gv'.ownBlock=some x.heap.size):
 SQ B b kv F0 w fs c9 c10 c11 c12 gv' rv wv nv gl' rl wl nl T x':=by
 refine h.move (h.wx.app9 ho hg ha) (Chg.grown (F:=fun k=>gv.ownBlock=some k) hg (fun k e=>e)) (fun k e=> .inr (.inl e)) fun k hk=> ?_
 rcases hk with e|e|e|e|e
 ·exact .inl (.inl e)
 ·exact ha.elim (fun q=> .inl (.inr (.inl (q▸e)))) fun q=> .inr (by rw[q] at e;have:=Option.some.inj e;omega)
 ·exact .inl (.inr (.inr (.inl e)))
 ·exact .inl (.inr (.inr (.inr (.inl e))))
 ·exact .inl (.inr (.inr (.inr (.inr e))))
theorem SQ.app10 (h:SQ B b kv F0 w fs c9 c10 c11 c12 gv rv wv nv gl rl wl nl T x) (ho:Own tkR 35 B x' rv' rl') (hg:x.grownBy x' rv.ownBlock) (ha:rv'.ownBlock=rv.ownBlock∨rv'.ownBlock=some x.heap.size):
 SQ B b kv F0 w fs c9 c10 c11 c12 gv rv' wv nv gl rl' wl nl T x':=by
 refine h.move (h.wx.app10 ho hg ha) (Chg.grown (F:=fun k=>rv.ownBlock=some k) hg (fun k e=>e)) (fun k e=> .inr (.inr (.inl e))) fun k hk=> ?_
 rcases hk with e|e|e|e|e
 ·exact .inl (.inl e)
 ·exact .inl (.inr (.inl e))
 ·exact ha.elim (fun q=> .inl (.inr (.inr (.inl (q▸e))))) fun q=> .inr (by rw[q] at e;have:=Option.some.inj e;omega)
 ·exact .inl (.inr (.inr (.inr (.inl e))))
 ·exact .inl (.inr (.inr (.inr (.inr e))))
theorem SQ.app11 (h:SQ B b kv F0 w fs c9 c10 c11 c12 gv rv wv nv gl rl wl nl T x) (ho:Own waR 37 B x' wv' wl') (hg:x.grownBy x' wv.ownBlock) (ha:wv'.ownBlock=wv.ownBlock∨wv'.ownBlock=some x.heap.size):
 SQ B b kv F0 w fs c9 c10 c11 c12 gv rv wv' nv gl rl wl' nl T x':=by
 refine h.move (h.wx.app11 ho hg ha) (Chg.grown (F:=fun k=>wv.ownBlock=some k) hg (fun k e=>e)) (fun k e=> .inr (.inr (.inr (.inl e)))) fun k hk=> ?_
 rcases hk with e|e|e|e|e
 ·exact .inl (.inl e)
 ·exact .inl (.inr (.inl e))
 ·exact .inl (.inr (.inr (.inl e)))
 ·exact ha.elim (fun q=> .inl (.inr (.inr (.inr (.inl (q▸e)))))) fun q=> .inr (by rw[q] at e;have:=Option.some.inj e;omega)
 ·exact .inl (.inr (.inr (.inr (.inr e))))
theorem SQ.app12 (h:SQ B b kv F0 w fs c9 c10 c11 c12 gv rv wv nv gl rl wl nl T x) (ho:Own intR 3 B x' nv' nl') (hg:x.grownBy x' nv.ownBlock) (ha:nv'.ownBlock=nv.ownBlock∨nv'.ownBlock=some x.heap.size):
 SQ B b kv F0 w fs c9 c10 c11 c12 gv rv wv nv' gl rl wl nl' T x':=by
 refine h.move (h.wx.app12 ho hg ha) (Chg.grown (F:=fun k=>nv.ownBlock=some k) hg (fun k e=>e)) (fun k e=> .inr (.inr (.inr (.inr e)))) fun k hk=> ?_
 rcases hk with e|e|e|e|e
 ·exact .inl (.inl e)
 ·exact .inl (.inr (.inl e))
 ·exact .inl (.inr (.inr (.inl e)))
 ·exact .inl (.inr (.inr (.inr (.inl e))))
 ·exact ha.elim (fun q=> .inl (.inr (.inr (.inr (.inr (q▸e)))))) fun q=> .inr (by rw[q] at e;have:=Option.some.inj e;omega)
theorem WX.tog (h:WX B b kv fs c9 c10 c11 c12 gv rv wv nv gl rl wl nl w) {k:Nat} (hk:k<8) (y:Bool):WX B b kv (fs.set k y) c9 c10 c11 c12 gv rv wv nv gl rl wl nl (w.setCell ⟨b,1+k,none⟩ (.bool y)):=by
 have hc:=Chg.set (F:=fun k=>k=b) w (a:=⟨b,1+k,none⟩) (.bool y) rfl
 have hl:(flV fs).length=8:=by simp[flV,h.fl]
 obtain⟨d1,_⟩:=List.pairwise_cons.1 h.ds
 refine⟨?_,by simp[h.fl],h.g.chg tkR_flat hc fun k hk e=> ?_,h.r.chg tkR_flat hc fun k hk e=> ?_,h.wt.chg waR_flat hc fun k hk e=> ?_,h.n.chg inR_flat hc fun k hk e=> ?_,h.bB,h.ds⟩
 ·have h1:=h.box.turn (j:=1+k) (by simp[hl];omega) (.bool y)
  rw[show 1+k=k+1 by omega,List.set_cons_succ,List.set_append_left _ _ (by omega),show(flV fs).set k (.bool y)=flV (fs.set k y) by simp[flV,List.map_set]] at h1
  rw[show 1+k=k+1 by omega]
  exact h1
 all_goals subst e
 ·exact d1 _ (by simp) _ rfl hk
 ·exact d1 _ (by simp) _ rfl hk
 ·exact d1 _ (by simp) _ rfl hk
 ·exact d1 _ (by simp) _ rfl hk
theorem SQ.tog (h:SQ B b kv F0 w fs c9 c10 c11 c12 gv rv wv nv gl rl wl nl T x) {k:Nat} (hk:k<8) (y:Bool):SQ B b kv F0 w (fs.set k y) c9 c10 c11 c12 gv rv wv nv gl rl wl nl T (x.setCell ⟨b,1+k,none⟩ (.bool y)):=
 h.move (h.wx.tog hk y) (Chg.set (F:=fun k=>k=b) x (a:=⟨b,1+k,none⟩) (.bool y) rfl) (fun _ e=> .inl e) fun _=> .inl
end
theorem wpAnyT_ops {P:Program} {md:Region.Mode} {ops ops':Array Oper} {Q:Exit→Act→World→Prop} {late:Nat→Bool} {S S1:World→Prop} {fuel:Nat} {l l':Array Bool} {a:Act} {w:World} (h:ops=ops') (hl:l=l') (hw:wpAnyT P md ops' Q late S S1 fuel l' a w):wpAnyT P md ops Q late S S1 fuel l a w:=by
 subst h;subst hl;exact hw
def opsIn (n:Nat):Code→Option (Array Oper)
 | .region k ops _=>if k=n then some ops else none
 | .seq a b=>(opsIn n a).or (opsIn n b)
 | .cond _ a b=>(opsIn n a).or (opsIn n b)
 | .block _ c=>opsIn n c
 | .loop c=>opsIn n c
 |_=>none
def TmpK {α:Type} (R:Rep α) (e:TypeId) (B0:Nat) (o:Option Nat) (y:α) (rv wv nv:Value) (X:World):Prop:=∀k,o=some k→B0≤k∧Own R e B0 X (.slice (some ⟨k,0,none⟩) 1 1) [y]∧rv.ownBlock≠some k∧wv.ownBlock≠some k∧nv.ownBlock≠some k
structure RS (B b:Nat) (kv:Value) (F0:Nat→Prop) (w:World) (fs:List Bool) (gv c10 c11 c12 rv wv nv:Value) (gl rl:List Tk) (wl:List Wa) (nl:List Int) (T:Tk) (q:Wa) (z:Int) (x0:World) (o8 o15 o23:Option Nat) (X:World):Prop where
 sq:SQ B b kv F0 w fs gv c10 c11 c12 gv rv wv nv gl rl wl nl T X
 ch:Chg (fun k=>c10.ownBlock=some k∨c11.ownBlock=some k∨c12.ownBlock=some k) x0 X
 t8:TmpK tkR 35 x0.heap.size o8 T rv wv nv X
 t15:TmpK waR 37 x0.heap.size o15 q rv wv nv X
 t23:TmpK intR 3 x0.heap.size o23 z rv wv nv X
section
variable {B b:Nat} {kv:Value} {F0:Nat→Prop} {w x0 X Y:World} {fs:List Bool} {gv c10 c11 c12 rv wv nv v':Value} {gl rl rl':List Tk} {wl wl':List Wa} {nl nl':List Int} {T:Tk} {q:Wa} {z:Int} {o8 o15 o23:Option Nat}
theorem TmpK.up {α:Type} {R:Rep α} {e:TypeId} {B0:Nat} {o:Option Nat} {y:α} (hR:R.flat) (h:TmpK R e B0 o y rv wv nv X) (c:Chg (fun _=>False) X Y):TmpK R e B0 o y rv wv nv Y:=fun k hk=>
 let⟨h1,h2,h3⟩:=h k hk
 ⟨h1,h2.chg hR c (fun _ _=>id),h3⟩
theorem TmpK.mv {α:Type} {R:Rep α} {e:TypeId} {B0:Nat} {o:Option Nat} {y:α} {rv' wv' nv':Value} (hR:R.flat) (h:TmpK R e B0 o y rv wv nv X) {cB:Option Nat} (c:Chg (fun k=>cB=some k) X Y)
 (hc:∀k,rv.ownBlock≠some k→wv.ownBlock≠some k→nv.ownBlock≠some k→cB≠some k) (hn:∀k,k<X.heap.size→rv.ownBlock≠some k→wv.ownBlock≠some k→nv.ownBlock≠some k→rv'.ownBlock≠some k∧wv'.ownBlock≠some k∧nv'.ownBlock≠some k):TmpK R e B0 o y rv' wv' nv' Y:=by
 intro k hk
 obtain⟨h1,h2,a1,a2,a3⟩:=h k hk
 refine⟨h1,h2.chg hR c (fun i hi e=> ?_),hn k (h2.lt k rfl).2 a1 a2 a3⟩
 have hi:k=i:=by simpa[Value.ownBlock] using hi
 exact hc k a1 a2 a3 (by rw[hi];exact e)
theorem RS.al8 (h:RS B b kv F0 w fs gv c10 c11 c12 rv wv nv gl rl wl nl T q z x0 none o15 o23 X):RS B b kv F0 w fs gv c10 c11 c12 rv wv nv gl rl wl nl T q z x0 (some X.heap.size) o15 o23 (X.alloc (.cells #[.int .i64 T.id,.int .i64 T.kind,.int .i64 T.pc,.int .i64 T.a,.int .i64 T.b,.int .i64 T.c,.int .i64 T.d] 35)):=by
 have c:=Chg.alloc (fun _=>False) X (.cells #[.int .i64 T.id,.int .i64 T.kind,.int .i64 T.pc,.int .i64 T.a,.int .i64 T.b,.int .i64 T.c,.int .i64 T.d] 35)
 have OL:Own tkR 35 x0.heap.size (X.alloc (.cells #[.int .i64 T.id,.int .i64 T.kind,.int .i64 T.pc,.int .i64 T.a,.int .i64 T.b,.int .i64 T.c,.int .i64 T.d] 35)) (.slice (some ⟨X.heap.size,0,none⟩) 1 1) [T]:=Own.lit (R:=tkR) (cells:=[.int .i64 T.id,.int .i64 T.kind,.int .i64 T.pc,.int .i64 T.a,.int .i64 T.b,.int .i64 T.c,.int .i64 T.d]) rfl h.ch.size (Rep.many_one (R:=tkR) (x:=T) rfl) rfl (by decide)
 exact⟨h.sq.still c,h.ch.trans c (fun _ _ e=>e.elim),fun k hk=>by
  obtain rfl:=Option.some.inj hk
  exact⟨h.ch.size,OL,fun e=>Nat.lt_irrefl _ (h.sq.wx.r.lt _ e).2,fun e=>Nat.lt_irrefl _ (h.sq.wx.wt.lt _ e).2,fun e=>Nat.lt_irrefl _ (h.sq.wx.n.lt _ e).2⟩,h.t15.up waR_flat c,h.t23.up inR_flat c⟩
theorem RS.al15 (h:RS B b kv F0 w fs gv c10 c11 c12 rv wv nv gl rl wl nl T q z x0 o8 none o23 X):RS B b kv F0 w fs gv c10 c11 c12 rv wv nv gl rl wl nl T q z x0 o8 (some X.heap.size) o23 (X.alloc (.cells #[.int .i64 q.kind,.int .i64 q.obj,.int .i64 q.til] 37)):=by
 have c:=Chg.alloc (fun _=>False) X (.cells #[.int .i64 q.kind,.int .i64 q.obj,.int .i64 q.til] 37)
 have OL:Own waR 37 x0.heap.size (X.alloc (.cells #[.int .i64 q.kind,.int .i64 q.obj,.int .i64 q.til] 37)) (.slice (some ⟨X.heap.size,0,none⟩) 1 1) [q]:=Own.lit (R:=waR) (cells:=[.int .i64 q.kind,.int .i64 q.obj,.int .i64 q.til]) rfl h.ch.size (Rep.many_one (R:=waR) (x:=q) rfl) rfl (by decide)
 exact⟨h.sq.still c,h.ch.trans c (fun _ _ e=>e.elim),h.t8.up tkR_flat c,fun k hk=>by
  obtain rfl:=Option.some.inj hk
  exact⟨h.ch.size,OL,fun e=>Nat.lt_irrefl _ (h.sq.wx.r.lt _ e).2,fun e=>Nat.lt_irrefl _ (h.sq.wx.wt.lt _ e).2,fun e=>Nat.lt_irrefl _ (h.sq.wx.n.lt _ e).2⟩,h.t23.up inR_flat c⟩
theorem RS.al23 (h:RS B b kv F0 w fs gv c10 c11 c12 rv wv nv gl rl wl nl T q z x0 o8 o15 none X) (hz:Bd z):RS B b kv F0 w fs gv c10 c11 c12 rv wv nv gl rl wl nl T q z x0 o8 o15 (some X.heap.size) (X.alloc (.cells #[.int .i64 z] 3)):=by
 have c:=Chg.alloc (fun _=>False) X (.cells #[.int .i64 z] 3)
 have OL:Own intR 3 x0.heap.size (X.alloc (.cells #[.int .i64 z] 3)) (.slice (some ⟨X.heap.size,0,none⟩) 1 1) [z]:=Own.lit (R:=intR) (cells:=[.int .i64 z]) rfl h.ch.size (Rep.many_one (R:=intR) (x:=z) ⟨rfl,hz⟩) rfl (by decide)
 exact⟨h.sq.still c,h.ch.trans c (fun _ _ e=>e.elim),h.t8.up tkR_flat c,h.t15.up waR_flat c,fun k hk=>by
  obtain rfl:=Option.some.inj hk
  exact⟨h.ch.size,OL,fun e=>Nat.lt_irrefl _ (h.sq.wx.r.lt _ e).2,fun e=>Nat.lt_irrefl _ (h.sq.wx.wt.lt _ e).2,fun e=>Nat.lt_irrefl _ (h.sq.wx.n.lt _ e).2⟩⟩
theorem RS.ap9 (h:RS B b kv F0 w fs gv c10 c11 c12 c10 wv nv gl rl wl nl T q z x0 o8 o15 o23 X) (ho:Own tkR 35 B Y v' rl') (hg:X.grownBy Y c10.ownBlock) (ha:v'.ownBlock=c10.ownBlock∨v'.ownBlock=some X.heap.size):
 RS B b kv F0 w fs gv c10 c11 c12 v' wv nv gl rl' wl nl T q z x0 none o15 o23 Y:=by
 have c:Chg (fun k=>c10.ownBlock=some k) X Y:=Chg.grown hg (fun k e=>e)
 have hne:∀k,c10.ownBlock≠some k→k<X.heap.size→v'.ownBlock≠some k:=fun k h1 h2 e=>by
  rcases ha with ha|ha
  ·rw[ha] at e;exact h1 e
  ·rw[ha] at e;have:=Option.some.inj e;omega
 exact⟨h.sq.app10 ho hg ha,h.ch.trans c (fun k _ e=> .inl e),
  (fun k hk=>by cases hk),
  h.t15.mv waR_flat c (fun k a1 a2 a3=>a1) (fun k hl a1 a2 a3=>⟨hne k a1 hl,a2,a3⟩),
  h.t23.mv inR_flat c (fun k a1 a2 a3=>a1) (fun k hl a1 a2 a3=>⟨hne k a1 hl,a2,a3⟩)⟩
theorem RS.ap16 (h:RS B b kv F0 w fs gv c10 c11 c12 rv c11 nv gl rl wl nl T q z x0 o8 o15 o23 X) (ho:Own waR 37 B Y v' wl') (hg:X.grownBy Y c11.ownBlock) (ha:v'.ownBlock=c11.ownBlock∨v'.ownBlock=some X.heap.size):
 RS B b kv F0 w fs gv c10 c11 c12 rv v' nv gl rl wl' nl T q z x0 o8 none o23 Y:=by
 have c:Chg (fun k=>c11.ownBlock=some k) X Y:=Chg.grown hg (fun k e=>e)
 have hne:∀k,c11.ownBlock≠some k→k<X.heap.size→v'.ownBlock≠some k:=fun k h1 h2 e=>by
  rcases ha with ha|ha
  ·rw[ha] at e;exact h1 e
  ·rw[ha] at e;have:=Option.some.inj e;omega
 exact⟨h.sq.app11 ho hg ha,h.ch.trans c (fun k _ e=> .inr (.inl e)),
  h.t8.mv tkR_flat c (fun k a1 a2 a3=>a2) (fun k hl a1 a2 a3=>⟨a1,hne k a2 hl,a3⟩),
  (fun k hk=>by cases hk),
  h.t23.mv inR_flat c (fun k a1 a2 a3=>a2) (fun k hl a1 a2 a3=>⟨a1,hne k a2 hl,a3⟩)⟩
theorem RS.ap24 (h:RS B b kv F0 w fs gv c10 c11 c12 rv wv c12 gl rl wl nl T q z x0 o8 o15 o23 X) (ho:Own intR 3 B Y v' nl') (hg:X.grownBy Y c12.ownBlock) (ha:v'.ownBlock=c12.ownBlock∨v'.ownBlock=some X.heap.size):
 RS B b kv F0 w fs gv c10 c11 c12 rv wv v' gl rl wl nl' T q z x0 o8 o15 none Y:=by
 have c:Chg (fun k=>c12.ownBlock=some k) X Y:=Chg.grown hg (fun k e=>e)
 have hne:∀k,c12.ownBlock≠some k→k<X.heap.size→v'.ownBlock≠some k:=fun k h1 h2 e=>by
  rcases ha with ha|ha
  ·rw[ha] at e;exact h1 e
  ·rw[ha] at e;have:=Option.some.inj e;omega
 exact⟨h.sq.app12 ho hg ha,h.ch.trans c (fun k _ e=> .inr (.inr e)),
  h.t8.mv tkR_flat c (fun k a1 a2 a3=>a3) (fun k hl a1 a2 a3=>⟨a1,a2,hne k a3 hl⟩),
  h.t15.mv waR_flat c (fun k a1 a2 a3=>a3) (fun k hl a1 a2 a3=>⟨a1,a2,hne k a3 hl⟩),
  (fun k hk=>by cases hk)⟩
end
end Go.Proofs.Ytlngbdggehghgaa

/-
  The law SchedSteps, in company: what an entry of the record holds; the region that writes a task and its wait. Conditions: as each theorem says.
-/
import Derived.Test.YtlngbdggehghgaaCyZ
namespace Go.Proofs.Ytlngbdggehghgaa
set_option linter.unusedSimpArgs false
set_option linter.unusedVariables false
open Go.RowKit
theorem Own.box {α:Type} {R:Rep α} {e:TypeId} {B n c:Nat} {A:Option Addr} {w:World} {xs:List α} (h:Own R e B w (.slice A n c) xs) (hx:xs≠[]):∃g,A=some ⟨g,0,none⟩:=by
 obtain⟨cells,ho,hm⟩:=h
 rcases ho.2 with⟨h',h0⟩|⟨g,cap,cur,h',_⟩
 ·exact absurd (List.length_eq_zero_iff.1 h0) hx
 ·cases h'
  exact⟨g,rfl⟩
theorem sl_box {α:Type} {R:Rep α} {e:TypeId} {B:Nat} {w:World} {v:Value} {xs:List α} (h:Own R e B w v xs) {i:Nat} {x:α} (hi:xs[i]?=some x):∃g o c cs,v=.slice (some ⟨g,o,none⟩) xs.length c∧xs.length≤c∧c≤9223372036854775807∧g<w.heap.size∧R.is w cs x∧At w g (o+i*R.size) cs:=by
 obtain⟨A,c,rfl,h1,h2,h3⟩:=h.form
 obtain⟨hl,hx⟩:=List.getElem?_eq_some_iff.1 hi
 obtain⟨g,o,cs,rfl,h4,h5,h6⟩:=h3.sl.at_ hl
 exact⟨g,o,c,cs,rfl,h1,h2,h4,hx▸h5,h6⟩
namespace Co
open Go.Conc
theorem Slots.skip {n:Nat} {base:List (Nat×Value)} {sl:List Nat} {V:Nat→Value} {listed:Array Bool} {a:Act} (h:Slots n base sl V listed a) {i s:Nat} (hs:sl[i]?=some s) (hb:n≤s) (hV:V i=undef):Slots n base sl V (listed.setIfInBounds i true) a:=by
 refine⟨h.size,h.df,h.old,fun j t hj hl=> ?_⟩
 by_cases e:i=j
 ·subst e
  rw[hs] at hj
  cases hj
  rw[hV]
  have:a.tmps[s]?=none:=Array.getElem?_eq_none (by rw[h.size];exact hb)
  simp[Act.eval,this]
 ·refine h.got j t hj ?_
  rw[Array.getD_eq_getD_getElem?,Array.getElem?_setIfInBounds_ne e] at hl
  rw[Array.getD_eq_getD_getElem?];exact hl
structure EntAt (v2:World) (b n0 i:Nat) (e:Ev) (gb go gc rb ro rc ub uo uc nb no nc:Nat):Prop where
 lt:b<v2.heap.size
 il:i<n0
 g:v2.cell? ⟨b,9,none⟩=some (.slice (some ⟨gb,go,none⟩) n0 gc)
 r:v2.cell? ⟨b,10,none⟩=some (.slice (some ⟨rb,ro,none⟩) n0 rc)
 u:v2.cell? ⟨b,11,none⟩=some (.slice (some ⟨ub,uo,none⟩) n0 uc)
 n:v2.cell? ⟨b,12,none⟩=some (.slice (some ⟨nb,no,none⟩) n0 nc)
 glt:gb<v2.heap.size
 rlt:rb<v2.heap.size
 ult:ub<v2.heap.size
 nlt:nb<v2.heap.size
 ga:At v2 gb (go+i*7) e.given.cells
 ra:At v2 rb (ro+i*7) e.ret.cells
 ua:At v2 ub (uo+i*3) e.wait.cells
 na:At v2 nb (no+i) [.int .i64 e.beg]
theorem ent_at {B b:Nat} {kv:Value} {fs:List Bool} {gv rv wv nv:Value} {es:List Ev} {v2:World} (h:WX B b kv fs gv rv wv nv gv rv wv nv (es.map (·.given)) (es.map (·.ret)) (es.map (·.wait)) (es.map (·.beg)) v2) {i:Nat} {e:Ev} (hi:es[i]?=some e):
 ∃gb go gc rb ro rc ub uo uc nb no nc,EntAt v2 b es.length i e gb go gc rb ro rc ub uo uc nb no nc:=by
 obtain⟨hil,_⟩:=List.getElem?_eq_some_iff.1 hi
 obtain⟨gb,go,gc,gs,e1,_,_,g1,g2,g3⟩:=sl_box h.g (x:=e.given) (by rw[List.getElem?_map,hi];rfl)
 obtain⟨rb,ro,rc,rs,e2,_,_,r1,r2,r3⟩:=sl_box h.r (x:=e.ret) (by rw[List.getElem?_map,hi];rfl)
 obtain⟨ub,uo,uc,us,e3,_,_,u1,u2,u3⟩:=sl_box h.wt (x:=e.wait) (by rw[List.getElem?_map,hi];rfl)
 obtain⟨nb,no,nc,ns,e4,_,_,n1,n2,n3⟩:=sl_box h.n (x:=e.beg) (by rw[List.getElem?_map,hi];rfl)
 rw[List.length_map] at e1 e2 e3 e4
 have g2:gs=e.given.cells:=g2
 have r2:rs=e.ret.cells:=r2
 have u2:us=e.wait.cells:=u2
 have n2:ns=[.int .i64 e.beg]:=n2.1
 subst g2 r2 u2 n2
 have c9:=h.cx (j:=0) rfl
 have c10:=h.cx (j:=1) rfl
 have c11:=h.cx (j:=2) rfl
 have c12:=h.cx (j:=3) rfl
 rw[e1] at c9
 rw[e2] at c10
 rw[e3] at c11
 rw[e4] at c12
 have n3:At v2 nb (no+i) [.int .i64 e.beg]:=by have:=n3;rwa[show no+i*intR.size=no+i by show no+i*1=_;omega] at this
 exact⟨gb,go,gc,rb,ro,rc,ub,uo,uc,nb,no,nc,h.box.lt,hil,c9,c10,c11,c12,g1,r1,u1,n1,g3,r3,u3,n3⟩
noncomputable def restS:Code:=sndC (sndC (sndC (sndC (sndC (sndC (sndC (sndC body6)))))))
noncomputable def lbS:Code:=inC (inC (sndC (fstC restS)))
noncomputable def bodyS:Code:=inC (fstC (sndC lbS))
noncomputable def reg19:Code:=fstC (sndC (sndC bodyS))
def slots19:List Nat:=[125,126,127,128,129,130,131,132,133,134,135,136,137,138,139,140,141,142,143,1000,144,1001]
def val19 (s b tb wb rb ro ub uo n0 rc uc tc wc i k:Nat) (T:List Tk) (W:List Wa) (e:Ev) (j:Nat):Value:=[.slice (some ⟨tb,0,none⟩) T.length tc,.int .i64 (k:Int),.slice (some ⟨wb,0,none⟩) W.length wc,.int .i64 (k:Int),.pointer (some ⟨b,0,none⟩),.pointer (some ⟨b,0,none⟩),.pointer (some ⟨b,10,none⟩),.slice (some ⟨rb,ro,none⟩) n0 rc,.int .i64 (i:Int),.pointer (some ⟨rb,ro+i*7,none⟩),.agg e.ret.cells.toArray,.pointer (some ⟨b,0,none⟩),.pointer (some ⟨b,0,none⟩),.pointer (some ⟨b,11,none⟩),.slice (some ⟨ub,uo,none⟩) n0 uc,.int .i64 (i:Int),.pointer (some ⟨ub,uo+i*3,none⟩),.agg e.wait.cells.toArray,.pointer (some ⟨tb,k*7,none⟩),undef,.pointer (some ⟨wb,k*3,none⟩),undef].getD j undef
theorem StA.putT {v2 y:World} {lg wv:Value} {g n c k:Nat} {Lt:List Tn} {T T':List Tk} {W:List Wa} {us:List Value} (h:StA v2 y lg (.slice (some ⟨g,0,none⟩) n c) wv Lt T W) (hp:Own tkR 35 v2.heap.size (putAt y g k us) (.slice (some ⟨g,0,none⟩) n c) T'∧y.grownBy (putAt y g k us) (some g)):StA v2 (putAt y g k us) lg (.slice (some ⟨g,0,none⟩) n c) wv Lt T' W:=by
 have hg:v2.heap.size≤g:=(h.t.lt g rfl).1
 refine⟨h.kp.up (Chg.grown (F:=fun j=>j=g) hp.2 (fun j e=>(Option.some.inj e).symm)) (fun j e=>by subst e;exact hg),h.lg.kept hp.2 (fun j hj e=> ?_) (fun _ _ h=>h),hp.1,h.w.kept hp.2 (fun j hj e=> ?_) (fun _ _ h=>h)⟩
 ·cases e
  exact h.lg.apart h.t (by decide) _ hj rfl
 ·cases e
  exact h.w.apart h.t (by decide) _ hj rfl
theorem StA.putW {v2 y:World} {lg tv:Value} {g n c k:Nat} {Lt:List Tn} {T:List Tk} {W W':List Wa} {us:List Value} (h:StA v2 y lg tv (.slice (some ⟨g,0,none⟩) n c) Lt T W) (hp:Own waR 37 v2.heap.size (putAt y g k us) (.slice (some ⟨g,0,none⟩) n c) W'∧y.grownBy (putAt y g k us) (some g)):StA v2 (putAt y g k us) lg tv (.slice (some ⟨g,0,none⟩) n c) Lt T W':=by
 have hg:v2.heap.size≤g:=(h.w.lt g rfl).1
 refine⟨h.kp.up (Chg.grown (F:=fun j=>j=g) hp.2 (fun j e=>(Option.some.inj e).symm)) (fun j e=>by subst e;exact hg),h.lg.kept hp.2 (fun j hj e=> ?_) (fun _ _ h=>h),h.t.kept hp.2 (fun j hj e=> ?_) (fun _ _ h=>h),hp.1⟩
 ·cases e
  exact h.lg.apart h.w (by decide) _ hj rfl
 ·cases e
  exact h.t.apart h.w (by decide) _ hj rfl
theorem u_cell {u y:World} {a:Addr} {x:Value} (hu:Same u y) (h:y.cell? a=some x):u.cell? a=some x:=by unfold World.cell? at h⊢;rw[hu.heap];exact h
theorem u_frozen {u y:World} {a:Addr} {x:Bool} (hu:Same u y) (h:y.frozen? a=x):u.frozen? a=x:=by unfold World.frozen? at h⊢;rw[hu.heap];exact h
theorem getD_ne2 {l:Array Bool} {i j:Nat} (h:i≠j):(l.setIfInBounds i true).getD j false=l.getD j false:=by
 rw[Array.getD_eq_getD_getElem?,Array.getElem?_setIfInBounds_ne h,←Array.getD_eq_getD_getElem?]
theorem getD_self2 {l:Array Bool} {i:Nat} (h:i<l.size):(l.setIfInBounds i true).getD i false=true:=by
 rw[Array.getD_eq_getD_getElem?,Array.getElem?_setIfInBounds_self,if_pos h]
 rfl
set_option maxRecDepth 100000 in
set_option maxHeartbeats 8000000 in
theorem reg19_co {Z:Goal} {X:Fx} {v2 w:World} {s b q tb wb tc wc n0 i k gb go gc rb ro rc ub uo uc nb no nc:Nat} {lg:Value} {Lt:List Tn} {T:List Tk} {W:List Wa} {e:Ev} {a:Act} {kk:List Item} (hZ:Z.Ok Try.prog) (hX:X.Ok Try.prog 0) (hE:EntAt v2 b n0 i e gb go gc rb ro rc ub uo uc nb no nc)
 (hk0:k<T.length) (hTW:T.length=W.length) (E:EvA a 249 [(2,.pointer (some ⟨q,0,none⟩)),(4,.bool false),(5,.pointer (some ⟨s,0,none⟩)),(6,.pointer (some ⟨b,0,none⟩)),(7,lg),(9,.slice (some ⟨tb,0,none⟩) T.length tc),(10,.slice (some ⟨wb,0,none⟩) W.length wc),(12,.int .i64 (i:Int)),(13,.int .i64 (k:Int))]) (A:StA v2 w lg (.slice (some ⟨tb,0,none⟩) T.length tc) (.slice (some ⟨wb,0,none⟩) W.length wc) Lt T W)
 (hnext:∀a' y,EvA a' 249 [(2,.pointer (some ⟨q,0,none⟩)),(4,.bool false),(5,.pointer (some ⟨s,0,none⟩)),(6,.pointer (some ⟨b,0,none⟩)),(7,lg),(9,.slice (some ⟨tb,0,none⟩) T.length tc),(10,.slice (some ⟨wb,0,none⟩) W.length wc),(12,.int .i64 (i:Int)),(13,.int .i64 (k:Int))]→StA v2 y lg (.slice (some ⟨tb,0,none⟩) T.length tc) (.slice (some ⟨wb,0,none⟩) W.length wc) Lt (T.set k e.ret) (W.set k e.wait)→Co Try.prog Z 0 X (G ((Go.Conc.base 6).at a' kk) []) y):
 Co Try.prog Z 0 X (G ((Go.Conc.base 6).at a (.code reg19::kk)) []) w:=by
 have hkW:k<W.length:=by omega
 have HN:=Hd.mk hnext
 clear hnext
 simp only[reg19,bodyS,lbS,restS,body6,Try.f6,Option.getD_some,fstC,sndC,inC]
 refine co_inv hZ hX (by kernel_rfl) (fun listed X' a y=>X'=X∧Slots 249 [(2,.pointer (some ⟨q,0,none⟩)),(4,.bool false),(5,.pointer (some ⟨s,0,none⟩)),(6,.pointer (some ⟨b,0,none⟩)),(7,lg),(9,.slice (some ⟨tb,0,none⟩) T.length tc),(10,.slice (some ⟨wb,0,none⟩) W.length wc),(12,.int .i64 (i:Int)),(13,.int .i64 (k:Int))] slots19 (val19 s b tb wb rb ro ub uo n0 rc uc tc wc i k T W e) listed a∧StA v2 y lg (.slice (some ⟨tb,0,none⟩) T.length tc) (.slice (some ⟨wb,0,none⟩) W.length wc) Lt (if listed.getD 19 false=true then T.set k e.ret else T) (if listed.getD 21 false=true then W.set k e.wait else W)) ?_ ?_ ?_
 ·intro listed X' a y i' hs hI hi
  obtain⟨rfl,hS,hA⟩:=hI
  obtain⟨n1,n2,n3⟩:=ready_bind hi
  have n2:i'<22:=n2
  have hkp:=hA.kp
  rcases(by omega:i'=0∨i'=1∨i'=2∨i'=3∨i'=4∨i'=5∨i'=6∨i'=7∨i'=8∨i'=9∨i'=10∨i'=11∨i'=12∨i'=13∨i'=14∨i'=15∨i'=16∨i'=17∨i'=18∨i'=19∨i'=20∨i'=21) with rfl|rfl|rfl|rfl|rfl|rfl|rfl|rfl|rfl|rfl|rfl|rfl|rfl|rfl|rfl|rfl|rfl|rfl|rfl|rfl|rfl|rfl
  ·have e9o:a.tmps[9]?.getD undef=.slice (some ⟨tb,0,none⟩) T.length tc:=by simpa[Act.eval] using hS.old 9 (.slice (some ⟨tb,0,none⟩) T.length tc) (by simp)
   intro rest hk
   refine co_value hZ hX (.slice (some ⟨tb,0,none⟩) T.length tc) rfl rfl (by decide) (fun _=>by simp[go_sem,execOp,e9o]) (fun _=>by simp[go_sem,execOp,e9o]) ?_
   exact hk X' _ y ⟨rfl,hS.put (i:=0) (V':=(val19 s b tb wb rb ro ub uo n0 rc uc tc wc i k T W e)) rfl (by decide) (by simp[slots19]) (by decide) (fun _ _ _=>rfl),by rw[getD_ne2 (by decide),getD_ne2 (by decide)];exact hA⟩
  ·have e13o:a.tmps[13]?.getD undef=.int .i64 (k:Int):=by simpa[Act.eval] using hS.old 13 (.int .i64 (k:Int)) (by simp)
   intro rest hk
   refine co_value hZ hX (.int .i64 (k:Int)) rfl rfl (by decide) (fun _=>by simp[go_sem,execOp,e13o]) (fun _=>by simp[go_sem,execOp,e13o]) ?_
   exact hk X' _ y ⟨rfl,hS.put (i:=1) (V':=(val19 s b tb wb rb ro ub uo n0 rc uc tc wc i k T W e)) rfl (by decide) (by simp[slots19]) (by decide) (fun _ _ _=>rfl),by rw[getD_ne2 (by decide),getD_ne2 (by decide)];exact hA⟩
  ·have e10o:a.tmps[10]?.getD undef=.slice (some ⟨wb,0,none⟩) W.length wc:=by simpa[Act.eval] using hS.old 10 (.slice (some ⟨wb,0,none⟩) W.length wc) (by simp)
   intro rest hk
   refine co_value hZ hX (.slice (some ⟨wb,0,none⟩) W.length wc) rfl rfl (by decide) (fun _=>by simp[go_sem,execOp,e10o]) (fun _=>by simp[go_sem,execOp,e10o]) ?_
   exact hk X' _ y ⟨rfl,hS.put (i:=2) (V':=(val19 s b tb wb rb ro ub uo n0 rc uc tc wc i k T W e)) rfl (by decide) (by simp[slots19]) (by decide) (fun _ _ _=>rfl),by rw[getD_ne2 (by decide),getD_ne2 (by decide)];exact hA⟩
  ·have e13o:a.tmps[13]?.getD undef=.int .i64 (k:Int):=by simpa[Act.eval] using hS.old 13 (.int .i64 (k:Int)) (by simp)
   intro rest hk
   refine co_value hZ hX (.int .i64 (k:Int)) rfl rfl (by decide) (fun _=>by simp[go_sem,execOp,e13o]) (fun _=>by simp[go_sem,execOp,e13o]) ?_
   exact hk X' _ y ⟨rfl,hS.put (i:=3) (V':=(val19 s b tb wb rb ro ub uo n0 rc uc tc wc i k T W e)) rfl (by decide) (by simp[slots19]) (by decide) (fun _ _ _=>rfl),by rw[getD_ne2 (by decide),getD_ne2 (by decide)];exact hA⟩
  ·have e6o:a.tmps[6]?.getD undef=.pointer (some ⟨b,0,none⟩):=by simpa[Act.eval] using hS.old 6 (.pointer (some ⟨b,0,none⟩)) (by simp)
   intro rest hk
   refine co_value hZ hX (.pointer (some ⟨b,0,none⟩)) rfl rfl (by decide) (fun _=>by simp[go_sem,execOp,e6o]) (fun _=>by simp[go_sem,execOp,e6o]) ?_
   exact hk X' _ y ⟨rfl,hS.put (i:=4) (V':=(val19 s b tb wb rb ro ub uo n0 rc uc tc wc i k T W e)) rfl (by decide) (by simp[slots19]) (by decide) (fun _ _ _=>rfl),by rw[getD_ne2 (by decide),getD_ne2 (by decide)];exact hA⟩
  ·have e4g:a.tmps[129]?.getD undef=.pointer (some ⟨b,0,none⟩):=by simpa[Act.eval] using(show a.eval (.tmp 129)=.pointer (some ⟨b,0,none⟩) from hS.got 4 129 rfl (n3 4 (by kernel_rfl)))
   intro rest hk
   refine co_value hZ hX (.pointer (some ⟨b,0,none⟩)) rfl rfl (by decide) (fun _=>by simp[go_sem,execOp,e4g]) (fun _=>by simp[go_sem,execOp,e4g]) ?_
   exact hk X' _ y ⟨rfl,hS.put (i:=5) (V':=(val19 s b tb wb rb ro ub uo n0 rc uc tc wc i k T W e)) rfl (by decide) (by simp[slots19]) (by decide) (fun _ _ _=>rfl),by rw[getD_ne2 (by decide),getD_ne2 (by decide)];exact hA⟩
  ·have e5g:a.tmps[130]?.getD undef=.pointer (some ⟨b,0,none⟩):=by simpa[Act.eval] using(show a.eval (.tmp 130)=.pointer (some ⟨b,0,none⟩) from hS.got 5 130 rfl (n3 5 (by kernel_rfl)))
   intro rest hk
   refine co_value hZ hX (.pointer (some ⟨b,10,none⟩)) rfl rfl (by decide) (fun _=>by simp[go_sem,execOp,e5g]) (fun _=>by simp[go_sem,execOp,e5g]) ?_
   exact hk X' _ y ⟨rfl,hS.put (i:=6) (V':=(val19 s b tb wb rb ro ub uo n0 rc uc tc wc i k T W e)) rfl (by decide) (by simp[slots19]) (by decide) (fun _ _ _=>rfl),by rw[getD_ne2 (by decide),getD_ne2 (by decide)];exact hA⟩
  ·have e6g:a.tmps[131]?.getD undef=.pointer (some ⟨b,10,none⟩):=by simpa[Act.eval] using(show a.eval (.tmp 131)=.pointer (some ⟨b,10,none⟩) from hS.got 6 131 rfl (n3 6 (by kernel_rfl)))
   intro rest hk
   refine co_op hZ hX TT.toTable (by decide) (R:=fun z u=>z=.slice (some ⟨rb,ro,none⟩) n0 rc∧Same u y) rfl rfl (by kernel_rfl) (fun u hu=>⟨.slice (some ⟨rb,ro,none⟩) n0 rc,u, ?_,rfl,hu⟩) (fun z u hh=> ?_)
   ·have d0:=u_cell hu (hkp.cell hE.r hE.lt)
    simp[go_sem,execOp,e6g,d0]
   obtain⟨rfl,hu⟩:=hh
   refine co_same hu ?_
   exact hk X' _ y ⟨rfl,hS.put (i:=7) (V':=(val19 s b tb wb rb ro ub uo n0 rc uc tc wc i k T W e)) rfl (by decide) (by simp[slots19]) (by decide) (fun _ _ _=>rfl),by rw[getD_ne2 (by decide),getD_ne2 (by decide)];exact hA⟩
  ·have e12o:a.tmps[12]?.getD undef=.int .i64 (i:Int):=by simpa[Act.eval] using hS.old 12 (.int .i64 (i:Int)) (by simp)
   intro rest hk
   refine co_value hZ hX (.int .i64 (i:Int)) rfl rfl (by decide) (fun _=>by simp[go_sem,execOp,e12o]) (fun _=>by simp[go_sem,execOp,e12o]) ?_
   exact hk X' _ y ⟨rfl,hS.put (i:=8) (V':=(val19 s b tb wb rb ro ub uo n0 rc uc tc wc i k T W e)) rfl (by decide) (by simp[slots19]) (by decide) (fun _ _ _=>rfl),by rw[getD_ne2 (by decide),getD_ne2 (by decide)];exact hA⟩
  ·have e7g:a.tmps[132]?.getD undef=.slice (some ⟨rb,ro,none⟩) n0 rc:=by simpa[Act.eval] using(show a.eval (.tmp 132)=.slice (some ⟨rb,ro,none⟩) n0 rc from hS.got 7 132 rfl (n3 7 (by kernel_rfl)))
   have e8g:a.tmps[133]?.getD undef=.int .i64 (i:Int):=by simpa[Act.eval] using(show a.eval (.tmp 133)=.int .i64 (i:Int) from hS.got 8 133 rfl (n3 8 (by kernel_rfl)))
   intro rest hk
   refine co_op hZ hX TT.toTable (by decide) (R:=fun z u=>z=.pointer (some ⟨rb,ro+i*7,none⟩)∧Same u y) rfl rfl (by kernel_rfl) (fun u hu=>⟨.pointer (some ⟨rb,ro+i*7,none⟩),u, ?_,rfl,hu⟩) (fun z u hh=> ?_)
   ·simp[go_sem,execOp,e7g,e8g,hE.il,show¬((n0:Int)≤(i:Int)) by have:=hE.il;omega]
   obtain⟨rfl,hu⟩:=hh
   refine co_same hu ?_
   exact hk X' _ y ⟨rfl,hS.put (i:=9) (V':=(val19 s b tb wb rb ro ub uo n0 rc uc tc wc i k T W e)) rfl (by decide) (by simp[slots19]) (by decide) (fun _ _ _=>rfl),by rw[getD_ne2 (by decide),getD_ne2 (by decide)];exact hA⟩
  ·have e9g:a.tmps[134]?.getD undef=.pointer (some ⟨rb,ro+i*7,none⟩):=by simpa[Act.eval] using(show a.eval (.tmp 134)=.pointer (some ⟨rb,ro+i*7,none⟩) from hS.got 9 134 rfl (n3 9 (by kernel_rfl)))
   intro rest hk
   refine co_op hZ hX TT.toTable (by decide) (R:=fun z u=>z=.agg e.ret.cells.toArray∧Same u y) rfl rfl (by kernel_rfl) (fun u hu=>⟨.agg e.ret.cells.toArray,u, ?_,rfl,hu⟩) (fun z u hh=> ?_)
   ·have d0:=u_cell hu (hkp.cell (hE.ra 0 _ rfl) hE.rlt)
    have d1:=u_cell hu (hkp.cell (hE.ra 1 _ rfl) hE.rlt)
    have d2:=u_cell hu (hkp.cell (hE.ra 2 _ rfl) hE.rlt)
    have d3:=u_cell hu (hkp.cell (hE.ra 3 _ rfl) hE.rlt)
    have d4:=u_cell hu (hkp.cell (hE.ra 4 _ rfl) hE.rlt)
    have d5:=u_cell hu (hkp.cell (hE.ra 5 _ rfl) hE.rlt)
    have d6:=u_cell hu (hkp.cell (hE.ra 6 _ rfl) hE.rlt)
    simp only[Nat.add_zero] at d0
    simp[go_sem,execOp,e9g,d0,d1,d2,d3,d4,d5,d6,Tk.cells]
   obtain⟨rfl,hu⟩:=hh
   refine co_same hu ?_
   exact hk X' _ y ⟨rfl,hS.put (i:=10) (V':=(val19 s b tb wb rb ro ub uo n0 rc uc tc wc i k T W e)) rfl (by decide) (by simp[slots19]) (by decide) (fun _ _ _=>rfl),by rw[getD_ne2 (by decide),getD_ne2 (by decide)];exact hA⟩
  ·have e6o:a.tmps[6]?.getD undef=.pointer (some ⟨b,0,none⟩):=by simpa[Act.eval] using hS.old 6 (.pointer (some ⟨b,0,none⟩)) (by simp)
   intro rest hk
   refine co_value hZ hX (.pointer (some ⟨b,0,none⟩)) rfl rfl (by decide) (fun _=>by simp[go_sem,execOp,e6o]) (fun _=>by simp[go_sem,execOp,e6o]) ?_
   exact hk X' _ y ⟨rfl,hS.put (i:=11) (V':=(val19 s b tb wb rb ro ub uo n0 rc uc tc wc i k T W e)) rfl (by decide) (by simp[slots19]) (by decide) (fun _ _ _=>rfl),by rw[getD_ne2 (by decide),getD_ne2 (by decide)];exact hA⟩
  ·have e11g:a.tmps[136]?.getD undef=.pointer (some ⟨b,0,none⟩):=by simpa[Act.eval] using(show a.eval (.tmp 136)=.pointer (some ⟨b,0,none⟩) from hS.got 11 136 rfl (n3 11 (by kernel_rfl)))
   intro rest hk
   refine co_value hZ hX (.pointer (some ⟨b,0,none⟩)) rfl rfl (by decide) (fun _=>by simp[go_sem,execOp,e11g]) (fun _=>by simp[go_sem,execOp,e11g]) ?_
   exact hk X' _ y ⟨rfl,hS.put (i:=12) (V':=(val19 s b tb wb rb ro ub uo n0 rc uc tc wc i k T W e)) rfl (by decide) (by simp[slots19]) (by decide) (fun _ _ _=>rfl),by rw[getD_ne2 (by decide),getD_ne2 (by decide)];exact hA⟩
  ·have e12g:a.tmps[137]?.getD undef=.pointer (some ⟨b,0,none⟩):=by simpa[Act.eval] using(show a.eval (.tmp 137)=.pointer (some ⟨b,0,none⟩) from hS.got 12 137 rfl (n3 12 (by kernel_rfl)))
   intro rest hk
   refine co_value hZ hX (.pointer (some ⟨b,11,none⟩)) rfl rfl (by decide) (fun _=>by simp[go_sem,execOp,e12g]) (fun _=>by simp[go_sem,execOp,e12g]) ?_
   exact hk X' _ y ⟨rfl,hS.put (i:=13) (V':=(val19 s b tb wb rb ro ub uo n0 rc uc tc wc i k T W e)) rfl (by decide) (by simp[slots19]) (by decide) (fun _ _ _=>rfl),by rw[getD_ne2 (by decide),getD_ne2 (by decide)];exact hA⟩
  ·have e13g:a.tmps[138]?.getD undef=.pointer (some ⟨b,11,none⟩):=by simpa[Act.eval] using(show a.eval (.tmp 138)=.pointer (some ⟨b,11,none⟩) from hS.got 13 138 rfl (n3 13 (by kernel_rfl)))
   intro rest hk
   refine co_op hZ hX TT.toTable (by decide) (R:=fun z u=>z=.slice (some ⟨ub,uo,none⟩) n0 uc∧Same u y) rfl rfl (by kernel_rfl) (fun u hu=>⟨.slice (some ⟨ub,uo,none⟩) n0 uc,u, ?_,rfl,hu⟩) (fun z u hh=> ?_)
   ·have d0:=u_cell hu (hkp.cell hE.u hE.lt)
    simp[go_sem,execOp,e13g,d0]
   obtain⟨rfl,hu⟩:=hh
   refine co_same hu ?_
   exact hk X' _ y ⟨rfl,hS.put (i:=14) (V':=(val19 s b tb wb rb ro ub uo n0 rc uc tc wc i k T W e)) rfl (by decide) (by simp[slots19]) (by decide) (fun _ _ _=>rfl),by rw[getD_ne2 (by decide),getD_ne2 (by decide)];exact hA⟩
  ·have e12o:a.tmps[12]?.getD undef=.int .i64 (i:Int):=by simpa[Act.eval] using hS.old 12 (.int .i64 (i:Int)) (by simp)
   intro rest hk
   refine co_value hZ hX (.int .i64 (i:Int)) rfl rfl (by decide) (fun _=>by simp[go_sem,execOp,e12o]) (fun _=>by simp[go_sem,execOp,e12o]) ?_
   exact hk X' _ y ⟨rfl,hS.put (i:=15) (V':=(val19 s b tb wb rb ro ub uo n0 rc uc tc wc i k T W e)) rfl (by decide) (by simp[slots19]) (by decide) (fun _ _ _=>rfl),by rw[getD_ne2 (by decide),getD_ne2 (by decide)];exact hA⟩
  ·have e14g:a.tmps[139]?.getD undef=.slice (some ⟨ub,uo,none⟩) n0 uc:=by simpa[Act.eval] using(show a.eval (.tmp 139)=.slice (some ⟨ub,uo,none⟩) n0 uc from hS.got 14 139 rfl (n3 14 (by kernel_rfl)))
   have e15g:a.tmps[140]?.getD undef=.int .i64 (i:Int):=by simpa[Act.eval] using(show a.eval (.tmp 140)=.int .i64 (i:Int) from hS.got 15 140 rfl (n3 15 (by kernel_rfl)))
   intro rest hk
   refine co_op hZ hX TT.toTable (by decide) (R:=fun z u=>z=.pointer (some ⟨ub,uo+i*3,none⟩)∧Same u y) rfl rfl (by kernel_rfl) (fun u hu=>⟨.pointer (some ⟨ub,uo+i*3,none⟩),u, ?_,rfl,hu⟩) (fun z u hh=> ?_)
   ·simp[go_sem,execOp,e14g,e15g,hE.il,show¬((n0:Int)≤(i:Int)) by have:=hE.il;omega]
   obtain⟨rfl,hu⟩:=hh
   refine co_same hu ?_
   exact hk X' _ y ⟨rfl,hS.put (i:=16) (V':=(val19 s b tb wb rb ro ub uo n0 rc uc tc wc i k T W e)) rfl (by decide) (by simp[slots19]) (by decide) (fun _ _ _=>rfl),by rw[getD_ne2 (by decide),getD_ne2 (by decide)];exact hA⟩
  ·have e16g:a.tmps[141]?.getD undef=.pointer (some ⟨ub,uo+i*3,none⟩):=by simpa[Act.eval] using(show a.eval (.tmp 141)=.pointer (some ⟨ub,uo+i*3,none⟩) from hS.got 16 141 rfl (n3 16 (by kernel_rfl)))
   intro rest hk
   refine co_op hZ hX TT.toTable (by decide) (R:=fun z u=>z=.agg e.wait.cells.toArray∧Same u y) rfl rfl (by kernel_rfl) (fun u hu=>⟨.agg e.wait.cells.toArray,u, ?_,rfl,hu⟩) (fun z u hh=> ?_)
   ·have d0:=u_cell hu (hkp.cell (hE.ua 0 _ rfl) hE.ult)
    have d1:=u_cell hu (hkp.cell (hE.ua 1 _ rfl) hE.ult)
    have d2:=u_cell hu (hkp.cell (hE.ua 2 _ rfl) hE.ult)
    simp only[Nat.add_zero] at d0
    simp[go_sem,execOp,e16g,d0,d1,d2,Wa.cells]
   obtain⟨rfl,hu⟩:=hh
   refine co_same hu ?_
   exact hk X' _ y ⟨rfl,hS.put (i:=17) (V':=(val19 s b tb wb rb ro ub uo n0 rc uc tc wc i k T W e)) rfl (by decide) (by simp[slots19]) (by decide) (fun _ _ _=>rfl),by rw[getD_ne2 (by decide),getD_ne2 (by decide)];exact hA⟩
  ·have e0g:a.tmps[125]?.getD undef=.slice (some ⟨tb,0,none⟩) T.length tc:=by simpa[Act.eval] using(show a.eval (.tmp 125)=.slice (some ⟨tb,0,none⟩) T.length tc from hS.got 0 125 rfl (n3 0 (by kernel_rfl)))
   have e1g:a.tmps[126]?.getD undef=.int .i64 (k:Int):=by simpa[Act.eval] using(show a.eval (.tmp 126)=.int .i64 (k:Int) from hS.got 1 126 rfl (n3 1 (by kernel_rfl)))
   intro rest hk
   refine co_op hZ hX TT.toTable (by decide) (R:=fun z u=>z=.pointer (some ⟨tb,k*7,none⟩)∧Same u y) rfl rfl (by kernel_rfl) (fun u hu=>⟨.pointer (some ⟨tb,k*7,none⟩),u, ?_,rfl,hu⟩) (fun z u hh=> ?_)
   ·simp[go_sem,execOp,e0g,e1g,hk0,show¬((T.length:Int)≤(k:Int)) by omega]
   obtain⟨rfl,hu⟩:=hh
   refine co_same hu ?_
   exact hk X' _ y ⟨rfl,hS.put (i:=18) (V':=(val19 s b tb wb rb ro ub uo n0 rc uc tc wc i k T W e)) rfl (by decide) (by simp[slots19]) (by decide) (fun _ _ _=>rfl),by rw[getD_ne2 (by decide),getD_ne2 (by decide)];exact hA⟩
  ·have e18g:a.tmps[143]?.getD undef=.pointer (some ⟨tb,k*7,none⟩):=by simpa[Act.eval] using(show a.eval (.tmp 143)=.pointer (some ⟨tb,k*7,none⟩) from hS.got 18 143 rfl (n3 18 (by kernel_rfl)))
   have e10g:a.tmps[135]?.getD undef=.agg e.ret.cells.toArray:=by simpa[Act.eval] using(show a.eval (.tmp 135)=.agg e.ret.cells.toArray from hS.got 10 135 rfl (n3 10 (by kernel_rfl)))
   have hA2:=hA
   rw[show listed.getD 19 false=false by rw[getD_flip (by rw[hs];decide) false true];exact n1] at hA2
   simp only[Bool.false_eq_true,↓reduceIte] at hA2
   obtain⟨cs,hc0,hcs,hfr⟩:=hA2.t.cell_ (k:=k) (by first|exact hk0|exact hkW|(split<;>simp<;>omega))
   obtain⟨tm,ds⟩:=a
   obtain rfl:ds=[]:=hS.df
   intro rest hk
   refine co_opS hZ hX TT.toTable (by decide) (R:=fun u=>Same u (putAt y tb (k*7) e.ret.cells)) rfl rfl (by kernel_rfl) (fun u hu=> ?_) (fun u hu=>co_same hu ?_)
   ·have q0:=u_cell hu (hcs 0 _ (by rw[show cs=_ from hc0];rfl))
    have q1:=u_cell hu (hcs 1 _ (by rw[show cs=_ from hc0];rfl))
    have q2:=u_cell hu (hcs 2 _ (by rw[show cs=_ from hc0];rfl))
    have q3:=u_cell hu (hcs 3 _ (by rw[show cs=_ from hc0];rfl))
    have q4:=u_cell hu (hcs 4 _ (by rw[show cs=_ from hc0];rfl))
    have q5:=u_cell hu (hcs 5 _ (by rw[show cs=_ from hc0];rfl))
    have q6:=u_cell hu (hcs 6 _ (by rw[show cs=_ from hc0];rfl))
    have qf:=fun j=>u_frozen hu (hfr j)
    simp only[Nat.add_zero,tkR] at q0 q1 q2 q3 q4 q5 q6
    refine⟨putAt u tb (k*7) e.ret.cells, ?_,hu.putAt _ _ _⟩
    simp[go_sem,execOp,Act.eval,e18g,e10g,q0,q1,q2,q3,q4,q5,q6,qf,Tk.cells,Wa.cells]
    rfl
   have hp:=hA2.t.put (k:=k) (x:=e.ret) (cs:=e.ret.cells) (by first|exact hk0|exact hkW|(split<;>simp<;>omega)) rfl (fun _ _ _ _ h=>h)
   exact hk X' _ _ ⟨rfl,hS.skip (i:=19) rfl (by decide) rfl,by rw[getD_self2 (by rw[hs];decide),getD_ne2 (by decide)];exact hA2.putT hp⟩
  ·have e2g:a.tmps[127]?.getD undef=.slice (some ⟨wb,0,none⟩) W.length wc:=by simpa[Act.eval] using(show a.eval (.tmp 127)=.slice (some ⟨wb,0,none⟩) W.length wc from hS.got 2 127 rfl (n3 2 (by kernel_rfl)))
   have e3g:a.tmps[128]?.getD undef=.int .i64 (k:Int):=by simpa[Act.eval] using(show a.eval (.tmp 128)=.int .i64 (k:Int) from hS.got 3 128 rfl (n3 3 (by kernel_rfl)))
   intro rest hk
   refine co_op hZ hX TT.toTable (by decide) (R:=fun z u=>z=.pointer (some ⟨wb,k*3,none⟩)∧Same u y) rfl rfl (by kernel_rfl) (fun u hu=>⟨.pointer (some ⟨wb,k*3,none⟩),u, ?_,rfl,hu⟩) (fun z u hh=> ?_)
   ·simp[go_sem,execOp,e2g,e3g,hkW,show¬((W.length:Int)≤(k:Int)) by omega]
   obtain⟨rfl,hu⟩:=hh
   refine co_same hu ?_
   exact hk X' _ y ⟨rfl,hS.put (i:=20) (V':=(val19 s b tb wb rb ro ub uo n0 rc uc tc wc i k T W e)) rfl (by decide) (by simp[slots19]) (by decide) (fun _ _ _=>rfl),by rw[getD_ne2 (by decide),getD_ne2 (by decide)];exact hA⟩
  ·have e20g:a.tmps[144]?.getD undef=.pointer (some ⟨wb,k*3,none⟩):=by simpa[Act.eval] using(show a.eval (.tmp 144)=.pointer (some ⟨wb,k*3,none⟩) from hS.got 20 144 rfl (n3 20 (by kernel_rfl)))
   have e17g:a.tmps[142]?.getD undef=.agg e.wait.cells.toArray:=by simpa[Act.eval] using(show a.eval (.tmp 142)=.agg e.wait.cells.toArray from hS.got 17 142 rfl (n3 17 (by kernel_rfl)))
   have hA2:=hA
   rw[show listed.getD 21 false=false by rw[getD_flip (by rw[hs];decide) false true];exact n1] at hA2
   simp only[Bool.false_eq_true,↓reduceIte] at hA2
   obtain⟨cs,hc0,hcs,hfr⟩:=hA2.w.cell_ (k:=k) (by first|exact hk0|exact hkW|(split<;>simp<;>omega))
   obtain⟨tm,ds⟩:=a
   obtain rfl:ds=[]:=hS.df
   intro rest hk
   refine co_opS hZ hX TT.toTable (by decide) (R:=fun u=>Same u (putAt y wb (k*3) e.wait.cells)) rfl rfl (by kernel_rfl) (fun u hu=> ?_) (fun u hu=>co_same hu ?_)
   ·have q0:=u_cell hu (hcs 0 _ (by rw[show cs=_ from hc0];rfl))
    have q1:=u_cell hu (hcs 1 _ (by rw[show cs=_ from hc0];rfl))
    have q2:=u_cell hu (hcs 2 _ (by rw[show cs=_ from hc0];rfl))
    have qf:=fun j=>u_frozen hu (hfr j)
    simp only[Nat.add_zero,waR] at q0 q1 q2
    refine⟨putAt u wb (k*3) e.wait.cells, ?_,hu.putAt _ _ _⟩
    simp[go_sem,execOp,Act.eval,e20g,e17g,q0,q1,q2,qf,Tk.cells,Wa.cells]
    rfl
   have hp:=hA2.w.put (k:=k) (x:=e.wait) (cs:=e.wait.cells) (by first|exact hk0|exact hkW|(split<;>simp<;>omega)) rfl (fun _ _ _ _ h=>h)
   exact hk X' _ _ ⟨rfl,hS.skip (i:=21) rfl (by decide) rfl,by rw[getD_self2 (by rw[hs];decide),getD_ne2 (by decide)];exact hA2.putW hp⟩
 ·intro listed X' a y hs hI hi
  obtain⟨rfl,hS,hA⟩:=hI
  have hall:∀j,j<22→listed.getD j false=true:=fun j hj=>by
   cases hq:listed.getD j true with
   |false=>exact absurd hi (ready_some (by kernel_rfl) hs (n:=j) hj hq)
   |true=>rw[getD_flip (by rw[hs];exact hj) false true];exact hq
  rw[hall 19 (by omega),hall 21 (by omega)] at hA
  refine co_region_end hZ hX ?_
  exact HN.out a y ⟨hS.size,hS.df,hS.old⟩ hA
 ·refine⟨rfl,⟨E.size,E.df,E.ev,fun i s _ hl=>by rw[rep_false] at hl;cases hl⟩, ?_⟩
  rw[rep_false,rep_false]
  exact A
end Co
end Go.Proofs.Ytlngbdggehghgaa

/-
  The laws' played, in company. Conditions: as each theorem says.
-/
import Derived.Test.YtlngbdggehghgaaCyE
import Derived.Test.YtlngbdggehghgaaCyF
import Derived.Test.YtlngbdggehghgaaCyH
import Derived.Test.YtlngbdggehghgaaCyI
namespace Go.Proofs.Ytlngbdggehghgaa
set_option linter.unusedSimpArgs false
set_option linter.unusedVariables false
namespace Co
open Go.Conc Go.RowKit
noncomputable def body10:Code:=Try.f10.body.getD .skip
def plBad (p:Pn) (pk:List Int):Bool:=farS p||decide (100<pk.length)||decide (newE (firstS p).length p.most≠0)
def rw0 (ks:List (List De)):RW:=⟨ks,List.replicate 8 false,[],[],[],[]⟩
def PlQ (v0:World) (p:Pn) (kv:Value) (pk:List Int) (v:World) (e:Value) (X':Fx) (v':World):Prop:=
 if plBad p pk=true then e=.tuple #[.pointer none,.pointer none]∧(∃g',X'=g'.fx Try.prog κL 0∧Lone g')∧Chg (fun _=>False) v v'
 else∃(s b:Nat) (B:Nat) (g':Gh) (bs:List Nat) (M:Nat→Prop),e=.tuple #[.pointer (some ⟨s,0,none⟩),.pointer (some ⟨b,0,none⟩)]∧X'=g'.fx Try.prog κL 0∧
  Liv (DW v0 b kv p.ks) B g' s bs (pksS (DW v0 b kv p.ks) pk (begS (S0 p.most) (firstS p)) (rw0 p.ks)).1 (pksS (DW v0 b kv p.ks) pk (begS (S0 p.most) (firstS p)) (rw0 p.ks)).2 M v'∧Chg (fun _=>False) v v'∧∀k,M k→k<v0.heap.size∨v.heap.size≤k
theorem getD_self {l:Array Bool} {i:Nat} (h:i<l.size):(l.setIfInBounds i true).getD i false=true:=by
 rw[Array.getD_eq_getD_getElem?,Array.getElem?_setIfInBounds_self,if_pos h]
 rfl
theorem newE_ok {n:Nat} {most:Int} (h:newE n most=0):(1≤n∧n≤200)∧(0≤most∧most≤20000):=by
 unfold newE at h
 split at h
 ·cases h
 ·split at h
  ·cases h
  ·omega
theorem WX0 {B b:Nat} {kv:Value} {w:World} (h:Cells w b [kv,.bool false,.bool false,.bool false,.bool false,.bool false,.bool false,.bool false,.bool false,.slice none 0 0,.slice none 0 0,.slice none 0 0,.slice none 0 0]) (hB:B≤b):
 WX B b kv (List.replicate 8 false) (.slice none 0 0) (.slice none 0 0) (.slice none 0 0) (.slice none 0 0) (.slice none 0 0) (.slice none 0 0) (.slice none 0 0) (.slice none 0 0) [] [] [] [] w:=
 ⟨h,rfl,Own.nil _ _ _ _,Own.nil _ _ _ _,Own.nil _ _ _ _,Own.nil _ _ _ _,hB,by simp[Dd,Value.ownBlock]⟩
theorem DW_inv0 {v0:World} {b:Nat} {kv:Value} {p:Pn} (hk:p.ks≠[]) (hf:∀f∈p.fs,0≤f):(DW v0 b kv p.ks).inv (rw0 p.ks) (begS (S0 p.most) (firstS p)):=by
 have hn:0<p.ks.length:=List.length_pos_iff.2 hk
 refine⟨rfl, ?_, ?_, ?_, ?_, ?_⟩
 ·rw[(begS_closed _ _).2.2];rfl
 ·rw[(begS_closed _ _).2.2];rfl
 ·rw[(begS_closed _ _).2.2];rfl
 ·rw[(begS_closed _ _).2.2];rfl
 ·rw[(begS_closed _ _).2.2]
  refine begS_alls (p:=KOk p.ks _) _ _ (fun n t ht=> ?_) (fun r hr=>by cases hr)
  unfold firstS at ht
  rw[if_neg hk] at ht
  obtain⟨f,hfm,rfl⟩:=List.mem_map.1 ht
  have:=hf f hfm
  exact⟨Int.le_refl _,Int.emod_nonneg _ (by omega),Int.emod_lt_of_pos _ (by omega),Int.le_refl _,Int.natCast_nonneg _⟩
theorem far_ok {p:Pn} (h:farS p=false):p.ks.length≤1000∧p.fs.length≤1000:=by
 simp[farS] at h
 omega
theorem act47 {a:Act} {p1 p2 p4 p5 p6 p7 p8:Value} {C:Act→Prop} (E:EvA a 47 [(1,p1),(2,p2),(4,p4),(5,p5),(6,p6),(7,p7),(8,p8)]) (h:∀(Jr Jf Jk J1 J9 Jw Jn Jv Jb Js Jy Jd J2 J0 Ya J3 Jt Jq Jh Ju Jm Yd Jc Je Ji Jx Jl J6 Jp J8 Jo Jj Yb Jg J4 J7 Jz Ja Yc J5:Value),C ⟨#[Jr,p1,p2,Jf,p4,p5,p6,p7,p8,Jk,J1,J9,Jw,Jn,Jv,Jb,Js,Jy,Jd,J2,J0,Ya,J3,Jt,Jq,Jh,Ju,Jm,Yd,Jc,Je,Ji,Jx,Jl,J6,Jp,J8,Jo,Jj,Yb,Jg,J4,J7,Jz,Ja,Yc,J5],[]⟩):C a:=by
 rw[E.form]
 have e1:=E.ev 1 p1 (by simp)
 have e2:=E.ev 2 p2 (by simp)
 have e4:=E.ev 4 p4 (by simp)
 have e5:=E.ev 5 p5 (by simp)
 have e6:=E.ev 6 p6 (by simp)
 have e7:=E.ev 7 p7 (by simp)
 have e8:=E.ev 8 p8 (by simp)
 rw[show List.range 47=[0,1,2,3,4,5,6,7,8,9,10,11,12,13,14,15,16,17,18,19,20,21,22,23,24,25,26,27,28,29,30,31,32,33,34,35,36,37,38,39,40,41,42,43,44,45,46] from rfl]
 simp only[List.map,e1,e2,e4,e5,e6,e7,e8]
 exact h _ _ _ _ _ _ _ _ _ _ _ _ _ _ _ _ _ _ _ _ _ _ _ _ _ _ _ _ _ _ _ _ _ _ _ _ _ _ _ _
theorem kp_chg {v0 v w:World} {F:Nat→Prop} (h1:Kp v0.heap.size v0 v) (h2:Kp v0.heap.size v0 w) (c:Chg F v w) (hF:∀k,F k→k<v.heap.size→k<v0.heap.size):Chg (fun _=>False) v w:=by
 refine⟨c.os,c.output,c.size,fun k hk _=> ?_⟩
 by_cases h:k<v0.heap.size
 ·rw[h1.chg.block k h (by omega),h2.chg.block k h (by omega)]
 ·exact c.block k hk (fun e=>h (hF k e hk))
theorem rep_false (n i:Nat):(Array.replicate n false).getD i false=false:=by
 rw[Array.getD_eq_getD_getElem?,Array.getElem?_replicate]
 split<;>rfl
def NewR (g:Gh) (v0:World) (p:Pn) (kv:Value) (x3:World) (b:Nat) (sv ev:Value) (X:Fx) (y:World):Prop:=
 (newE (firstS p).length p.most≠0∧sv=.pointer none∧ev=.int .i64 (newE (firstS p).length p.most)∧X=g.fx Try.prog κL 0∧Chg (fun _=>False) x3 y)∨
 (newE (firstS p).length p.most=0∧∃(u:World) (F:Nat→Prop),sv=.pointer (some ⟨u.heap.size,0,none⟩)∧ev=.int .i64 0∧Chg (fun _=>False) x3 u∧(DW v0 b kv p.ks).mem (rw0 p.ks) F u∧(∀k,F k→k<v0.heap.size∨k=b)∧
  Aft (DW v0 b kv p.ks) u.heap.size u.heap.size [] (begS (S0 p.most) (firstS p)) (rw0 p.ks) (fun k=>F k∨u.heap.size≤k) u X y)
def deps4:List (Nat×Nat):=[(6,3),(7,6),(8,7),(9,7),(10,8),(11,9)]
structure R4 (g:Gh) (v0:World) (p:Pn) (kv:Value) (x3:World) (b:Nat) (lv sv ev:Value) (listed:Array Bool) (X:Fx) (y:World):Prop where
 pre:listed.getD 6 false=false→X=g.fx Try.prog κL 0∧Chg (fun _=>False) x3 y
 lst:listed.getD 6 false=false→listed.getD 3 false=true→Own tkR 35 x3.heap.size y lv (firstS p)
 new:listed.getD 6 false=true→NewR g v0 p kv x3 b sv ev X y
 cl:∀q∈deps4,listed.getD q.1 false=true→listed.getD q.2 false=true
def slots4:List Nat:=[22,23,24,25,26,27,28,21,29,30,7,8]
def val4 (b q:Nat) (pl lv:Value) (most:Int) (sv ev:Value) (i:Nat):Value:=
 [.pointer (some ⟨b,0,none⟩),.iface 27 (.pointer (some ⟨b,0,none⟩)),pl,lv,.pointer (some ⟨q,2,none⟩),.int .i64 most,.tuple #[sv,ev],.tuple #[sv,ev],sv,ev,sv,ev].getD i undef
theorem getD_ne {l:Array Bool} {i j:Nat} (h:i≠j):(l.setIfInBounds i true).getD j false=l.getD j false:=by
 rw[Array.getD_eq_getD_getElem?,Array.getElem?_setIfInBounds_ne h,←Array.getD_eq_getD_getElem?]
theorem getD_up {l:Array Bool} {i j:Nat} (h:l.getD j false=true):(l.setIfInBounds i true).getD j false=true:=by
 by_cases e:i=j
 ·subst e
  rw[Array.getD_eq_getD_getElem?] at h⊢
  rw[Array.getElem?_setIfInBounds_self]
  split
  ·rfl
  ·rename_i hn
   rw[Array.getElem?_eq_none (by omega)] at h
   cases h
 ·rw[getD_ne e];exact h
theorem cl_put {l:Array Bool} {i:Nat} (h:∀q∈deps4,l.getD q.1 false=true→l.getD q.2 false=true) (hd:∀q∈deps4,q.1=i→l.getD q.2 false=true):∀q∈deps4,(l.setIfInBounds i true).getD q.1 false=true→(l.setIfInBounds i true).getD q.2 false=true:=by
 intro q hq e
 by_cases hi:i=q.1
 ·exact getD_up (hd q hq hi.symm)
 ·rw[getD_ne hi] at e
  exact getD_up (h q hq e)
theorem R4.six {g:Gh} {v0:World} {p:Pn} {kv:Value} {x3:World} {b:Nat} {lv sv ev:Value} {listed:Array Bool} {X:Fx} {y:World} (h:R4 g v0 p kv x3 b lv sv ev listed X y) {j:Nat} (h1:6≤j) (h2:j<12) (hl:listed.getD j false=true):listed.getD 6 false=true:=by
 have c7:=h.cl (7,6) (by simp[deps4])
 have c8:=h.cl (8,7) (by simp[deps4])
 have c9:=h.cl (9,7) (by simp[deps4])
 have c10:=h.cl (10,8) (by simp[deps4])
 have c11:=h.cl (11,9) (by simp[deps4])
 rcases(by omega:j=6∨j=7∨j=8∨j=9∨j=10∨j=11) with rfl|rfl|rfl|rfl|rfl|rfl
 ·exact hl
 ·exact c7 hl
 ·exact c7 (c8 hl)
 ·exact c7 (c9 hl)
 ·exact c7 (c8 (c10 hl))
 ·exact c7 (c9 (c11 hl))
theorem val4_lv {b q:Nat} {pl lv lv':Value} {most:Int} {sv ev:Value} {j:Nat} (h:j≠3):val4 b q pl lv' most sv ev j=val4 b q pl lv most sv ev j:=by
 match j,h with
 |0,_|1,_|2,_|4,_|5,_|6,_|7,_|8,_|9,_|10,_|11,_=>rfl
 |3,h=>exact absurd rfl h
 |j+12,_=>rfl
theorem val4_sv {b q:Nat} {pl lv:Value} {most:Int} {sv ev sv' ev':Value} {j:Nat} (h:j<6∨12≤j):val4 b q pl lv most sv' ev' j=val4 b q pl lv most sv ev j:=by
 match j,h with
 |0,_|1,_|2,_|3,_|4,_|5,_=>rfl
 |6,h|7,h|8,h|9,h|10,h|11,h=>exact absurd h (by omega)
 |j+12,_=>rfl
theorem R4.put {g:Gh} {v0:World} {p:Pn} {kv:Value} {x3:World} {b:Nat} {lv sv ev:Value} {listed:Array Bool} {X:Fx} {y:World} (h:R4 g v0 p kv x3 b lv sv ev listed X y) {i:Nat} (h3:i≠3) (h6:i≠6) (hd:∀q∈deps4,q.1=i→listed.getD q.2 false=true):R4 g v0 p kv x3 b lv sv ev (listed.setIfInBounds i true) X y:=
 ⟨fun e=>h.pre (by rwa[getD_ne h6] at e),fun e e'=>h.lst (by rwa[getD_ne h6] at e) (by rwa[getD_ne h3] at e'),fun e=>h.new (by rwa[getD_ne h6] at e),fun q hq e=>cl_put h.cl hd q hq e⟩
theorem R4.box {g:Gh} {v0:World} {p:Pn} {kv:Value} {x3:World} {b:Nat} {lv sv ev:Value} {listed:Array Bool} {X:Fx} {y:World} (h:R4 g v0 p kv x3 b lv sv ev listed X y) {q:Nat} {l:List Value} (hc:Cells x3 q l) (h1:v0.heap.size≤q) (h2:q≠b):Cells y q l:=by
 cases hq:listed.getD 6 false with
 |false=>exact hc.chg (h.pre hq).2 id
 |true=>
  rcases h.new hq with⟨_,_,_,_,c⟩|⟨_,u,F,_,_,c,_,hF,A⟩
  ·exact hc.chg c id
  ·obtain⟨g',bs',M',_,_,c2,_⟩:=A
   refine(hc.chg c id).chg c2 (fun e=> ?_)
   have:=(hc.chg c id).lt
   rcases e with e|e
   ·rcases hF q e with e|e
    ·omega
    ·exact h2 e
   ·omega
theorem NewR.ok {g:Gh} {v0:World} {p:Pn} {kv:Value} {x3:World} {b:Nat} {sv ev:Value} {X:Fx} {y:World} (L:Lone g) (h:NewR g v0 p kv x3 b sv ev X y):X.Ok Try.prog 0:=by
 rcases h with⟨_,_,_,rfl,_⟩|⟨_,u,F,_,_,_,_,_,g',bs',M',rfl,⟨_,_,_,cr,_⟩,_⟩
 ·exact L.ok.fx κL_ok
 ·exact cr.ok.fx κL_ok
set_option maxRecDepth 100000 in
set_option maxHeartbeats 8000000 in
theorem played_co {Z:Goal} {g:Gh} {v0 v:World} {p:Pn} {kv fv pv:Value} {pk:List Int} (hZ:Z.Ok Try.prog) (L:Lone g) (hK:Kp v0.heap.size v0 v) (h:PnAt v p kv fv) (hp0:∀w,Kp v0.heap.size v0 w→Sl intR w pv pk) (hkb:∀k∈pk,Bd k) (hfn:∀f∈p.fs,0≤f) (hKa:farS p=false→newE (firstS p).length p.most=0→KindsAt v0 kv p.ks∧DeedsOk p.ks):
 Calls Try.prog Z 0 (g.fx Try.prog κL 0) 10 #[.agg #[kv,fv,.int .i64 p.most],pv] v (PlQ v0 p kv pk v):=by
 intro c cs hpost
 have HP:=Hd.mk hpost
 clear hpost
 have hX:=L.ok.fx κL_ok
 obtain⟨kA,kc,rfl,k1,k2,_⟩:=h.ks.open
 obtain⟨fA,fc,rfl,f1,f2,_⟩:=h.fs.open
 have hp:=hp0 v hK
 obtain⟨pA,pc,rfl,p1,p2,_⟩:=hp.open
 have HH:=Hd.mk h
 have HPK:=Hd.mk hp
 clear h hp
 rw[enter_at _ Try.func10 (by kernel_rfl:Try.f10.body=some body10),Try.ntmps10]
 walk_nrm
 simp only[body10,Try.f10,Option.getD_some]
 refine co_seq hZ hX ?_
 refine co_code hZ hX TT (by decide) (by kernel_rfl) (by kernel_rfl) fun K hKK u hu=> ?_
 have hz0:u.heap.size=v.heap.size:=by rw[hu.heap]
 go_wp2_with fail
 refine hKK.out _ _ (co_same (hu.alloc _) ?_)
 clear hKK K hu hz0 u
 refine at_world (fun y=>Chg (fun _=>False) v y∧v.heap.size<y.heap.size∧Cells y v.heap.size [.slice kA p.ks.length kc,.slice fA p.fs.length fc,.int .i64 p.most]) ⟨Chg.alloc _ _ _,by simp,Cells.new v [.slice kA p.ks.length kc,.slice fA p.fs.length fc,.int .i64 p.most] 25⟩ fun x1 ⟨c1,hz1,bx⟩=> ?_
 have C1:=Hd.mk c1
 have BX:=Hd.mk bx
 clear c1 bx
 have HQ:=Hd.mk (PnAt.mk (HH.out.ks.chgK C1.out) (HH.out.fs.chg byR_flat C1.out (fun _ _=>id)))
 refine co_seq hZ hX ?_
 refine co_seq hZ hX ?_
 cases hfar:farS p with
 |true=>
  have hbad:plBad p pk=true:=by simp[plBad,hfar]
  refine co_code hZ hX TT (by decide) (by kernel_rfl) (by kernel_rfl) fun K hKK u hu=> ?_
  have C0:=same_chg (F:=fun _=>False) hu
  have R:=far_any p _ _ u (PnAt.mk (HQ.out.ks.chgK C0) (HQ.out.fs.chg byR_flat C0 (fun _ _=>id)))
  rw[hfar] at R
  have R:=Lib.hid R
  have d0:=C0.cell (BX.out.c 0 _ rfl) id
  have d1:=C0.cell (BX.out.c 1 _ rfl) id
  have d2:=C0.cell (BX.out.c 2 _ rfl) id
  have C0:=Hd.mk C0
  clear hu
  go_wp2_with (go_at_call 24;refine R.out.mono ?_;rintro e w2 ⟨rfl,hb⟩;have HB:=Hd.mk hb;clear hb)
  refine hKK.out _ _ ?_
  have C2:=Hd.mk ((C1.out.trans C0.out (fun _ _=>id)).trans (Chg.of_below (F:=fun _=>False) HB.out) (fun _ _=>id))
  have HQ:=Hd.mk (PnAt.mk (HH.out.ks.chgK C2.out) (HH.out.fs.chg byR_flat C2.out (fun _ _=>id)))
  have BX:=Hd.mk ((BX.out.chg C0.out id).chg (Chg.of_below (F:=fun _=>False) HB.out) id)
  clear hKK K R HB C0 C1
  refine co_cond (t:=true) hZ hX (by simp[Act.eval]) ?_
  simp only[↓reduceIte]
  refine co_seq hZ hX ?_
  refine co_code hZ hX TT (by decide) (by kernel_rfl) (by kernel_rfl) fun K hKK u hu=> ?_
  go_wp2_with fail
  refine hKK.out _ _ (co_same hu ?_)
  clear hKK K hu u
  refine co_ret hZ hX ?_
  refine c_leave (n:=0) (J:=fun _ a=>Co Try.prog Z 0 (g.fx Try.prog κL 0) a w2) (Co.calmly hZ hX) (x:=.tuple #[.pointer none,.pointer none]) rfl rfl Try.func10 (fun w=>by simp[results,Try.results10,go_sem]) (fun w=>by simp[results,Try.results10,go_sem]) ?_
  exact HP.out _ _ w2 (by unfold PlQ;rw[if_pos hbad];exact⟨rfl,⟨g,rfl,L⟩,C2.out⟩)
 |false=>
  by_cases hpl:100<pk.length
  ·have hbad:plBad p pk=true:=by simp[plBad,hpl]
   refine co_code hZ hX TT (by decide) (by kernel_rfl) (by kernel_rfl) fun K hKK u hu=> ?_
   have C0:=same_chg (F:=fun _=>False) hu
   have R:=far_any p _ _ u (PnAt.mk (HQ.out.ks.chgK C0) (HQ.out.fs.chg byR_flat C0 (fun _ _=>id)))
   rw[hfar] at R
   have R:=Lib.hid R
   have d0:=C0.cell (BX.out.c 0 _ rfl) id
   have d1:=C0.cell (BX.out.c 1 _ rfl) id
   have d2:=C0.cell (BX.out.c 2 _ rfl) id
   have C0:=Hd.mk C0
   clear hu
   go_wp2_with (go_at_call 24;refine R.out.mono ?_;rintro e w2 ⟨rfl,hb⟩;have HB:=Hd.mk hb;clear hb)
   refine hKK.out _ _ ?_
   have C2:=Hd.mk ((C1.out.trans C0.out (fun _ _=>id)).trans (Chg.of_below (F:=fun _=>False) HB.out) (fun _ _=>id))
   have HQ:=Hd.mk (PnAt.mk (HH.out.ks.chgK C2.out) (HH.out.fs.chg byR_flat C2.out (fun _ _=>id)))
   have BX:=Hd.mk ((BX.out.chg C0.out id).chg (Chg.of_below (F:=fun _=>False) HB.out) id)
   clear hKK K R HB C0 C1
   refine co_cond (t:=true) hZ hX (by simp[Act.eval];omega) ?_
   simp only[↓reduceIte]
   refine co_seq hZ hX ?_
   refine co_code hZ hX TT (by decide) (by kernel_rfl) (by kernel_rfl) fun K hKK u hu=> ?_
   go_wp2_with fail
   refine hKK.out _ _ (co_same hu ?_)
   clear hKK K hu u
   refine co_ret hZ hX ?_
   refine c_leave (n:=0) (J:=fun _ a=>Co Try.prog Z 0 (g.fx Try.prog κL 0) a w2) (Co.calmly hZ hX) (x:=.tuple #[.pointer none,.pointer none]) rfl rfl Try.func10 (fun w=>by simp[results,Try.results10,go_sem]) (fun w=>by simp[results,Try.results10,go_sem]) ?_
   exact HP.out _ _ w2 (by unfold PlQ;rw[if_pos hbad];exact⟨rfl,⟨g,rfl,L⟩,C2.out⟩)
  ·have hpl2:pk.length≤100:=by omega
   refine co_code hZ hX TT (by decide) (by kernel_rfl) (by kernel_rfl) fun K hKK u hu=> ?_
   have C0:=same_chg (F:=fun _=>False) hu
   have R:=far_any p _ _ u (PnAt.mk (HQ.out.ks.chgK C0) (HQ.out.fs.chg byR_flat C0 (fun _ _=>id)))
   rw[hfar] at R
   have R:=Lib.hid R
   have d0:=C0.cell (BX.out.c 0 _ rfl) id
   have d1:=C0.cell (BX.out.c 1 _ rfl) id
   have d2:=C0.cell (BX.out.c 2 _ rfl) id
   have C0:=Hd.mk C0
   clear hu
   go_wp2_with (go_at_call 24;refine R.out.mono ?_;rintro e w2 ⟨rfl,hb⟩;have HB:=Hd.mk hb;clear hb)
   refine hKK.out _ _ ?_
   have C2:=Hd.mk ((C1.out.trans C0.out (fun _ _=>id)).trans (Chg.of_below (F:=fun _=>False) HB.out) (fun _ _=>id))
   have HQ:=Hd.mk (PnAt.mk (HH.out.ks.chgK C2.out) (HH.out.fs.chg byR_flat C2.out (fun _ _=>id)))
   have BX:=Hd.mk ((BX.out.chg C0.out id).chg (Chg.of_below (F:=fun _=>False) HB.out) id)
   clear hKK K R HB C0 C1
   refine co_cond (t:=false) hZ hX (by simp[Act.eval];omega) ?_
   simp only[Bool.false_eq_true,↓reduceIte]
   refine co_skip hZ hX ?_
   refine co_seq hZ hX ?_
   refine co_code hZ hX TT (by decide) (by kernel_rfl) (by kernel_rfl) fun K hKK u hu=> ?_
   have d0:u.cell? ⟨v.heap.size,0,none⟩=some (.slice kA p.ks.length kc):=(by unfold World.cell?;rw[hu.heap];exact BX.out.c 0 _ rfl)
   have hz0:u.heap.size=w2.heap.size:=by rw[hu.heap]
   go_wp2_with fail
   refine hKK.out _ _ (co_same (hu.alloc _) ?_)
   clear hKK K hu hz0 d0 u
   refine at_world (fun y=>Chg (fun _=>False) w2 y∧w2.heap.size<y.heap.size∧Cells y w2.heap.size [.slice kA p.ks.length kc,.bool false,.bool false,.bool false,.bool false,.bool false,.bool false,.bool false,.bool false,.slice none 0 0,.slice none 0 0,.slice none 0 0,.slice none 0 0]) ⟨Chg.alloc _ _ _,by simp,Cells.new w2 [.slice kA p.ks.length kc,.bool false,.bool false,.bool false,.bool false,.bool false,.bool false,.bool false,.bool false,.slice none 0 0,.slice none 0 0,.slice none 0 0,.slice none 0 0] 76⟩ fun x3 ⟨c3,hz3,wb⟩=> ?_
   have C3:=Hd.mk (C2.out.trans c3 (fun _ _=>id))
   have WB:=Hd.mk wb
   have HQ:=Hd.mk (PnAt.mk (HH.out.ks.chgK C3.out) (HH.out.fs.chg byR_flat C3.out (fun _ _=>id)))
   have hqb:v.heap.size<w2.heap.size:=BX.out.lt
   have BX:=Hd.mk (BX.out.chg c3 id)
   clear c3 wb
   generalize w2.heap.size=b0 at hz3 WB hqb⊢
   refine co_seq hZ hX ?_
   refine co_inv hZ hX (by kernel_rfl) (fun listed X a y=> ∃lv sv ev,Slots 47 [(1,.slice pA pk.length pc),(2,.pointer (some ⟨v.heap.size,0,none⟩)),(4,.pointer none),(5,.pointer none),(6,.pointer (some ⟨b0,0,none⟩))] slots4 (val4 b0 v.heap.size (.agg #[.slice kA p.ks.length kc,.slice fA p.fs.length fc,.int .i64 p.most]) lv p.most sv ev) listed a∧R4 g v0 p (.slice kA p.ks.length kc) x3 b0 lv sv ev listed X y) ?_ ?_ ?_
   ·intro listed X a y i hs hI hi
    obtain⟨lv,sv,ev,hS,hR⟩:=hI
    obtain⟨n1,n2,n3⟩:=ready_bind hi
    obtain⟨hks2,hfs2⟩:=far_ok hfar
    have n2:i<12:=n2
    have hXX:X.Ok Try.prog 0:=by
     cases hq:listed.getD 6 false with
     |false=>rw[(hR.pre hq).1];exact hX
     |true=>exact(hR.new hq).ok L
    rcases(by omega:i=0∨i=1∨i=2∨i=3∨i=4∨i=5∨i=6∨i=7∨i=8∨i=9∨i=10∨i=11) with rfl|rfl|rfl|rfl|rfl|rfl|rfl|rfl|rfl|rfl|rfl|rfl
    ·have e6o:a.tmps[6]?.getD undef=.pointer (some ⟨b0,0,none⟩):=by simpa[Act.eval] using hS.old 6 (.pointer (some ⟨b0,0,none⟩)) (by simp)
     intro rest hk
     refine co_value hZ hXX (.pointer (some ⟨b0,0,none⟩)) rfl rfl (by decide) (fun _=>by simp[go_sem,execOp,e6o]) (fun _=>by simp[go_sem,execOp,e6o]) ?_
     exact hk X _ y ⟨lv,sv,ev,hS.put (i:=0) rfl (by decide) (by simp[slots4]) (by decide) (fun _ _ _=>rfl),hR.put (by decide) (by decide) (fun q hq e=>by
      simp only[deps4,List.mem_cons,List.not_mem_nil,or_false] at hq
      rcases hq with rfl|rfl|rfl|rfl|rfl|rfl<;>first|exact absurd e (by decide)|exact n3 _ (by kernel_rfl))⟩
    ·have e0g:a.tmps[22]?.getD undef=.pointer (some ⟨b0,0,none⟩):=by simpa[Act.eval] using(show a.eval (.tmp 22)=.pointer (some ⟨b0,0,none⟩) from hS.got 0 22 rfl (n3 0 (by kernel_rfl)))
     intro rest hk
     refine co_op hZ hXX TT.toTable (by decide) (R:=fun z u=>z=.iface 27 (.pointer (some ⟨b0,0,none⟩))∧Same u y) rfl rfl (by kernel_rfl) (fun u hu=>⟨.iface 27 (.pointer (some ⟨b0,0,none⟩)),u, ?_,rfl,hu⟩) (fun z u hh=> ?_)
     ·simp[go_sem,execOp,e0g]
     obtain⟨rfl,hu⟩:=hh
     refine co_same hu ?_
     exact hk X _ y ⟨lv,sv,ev,hS.put (i:=1) rfl (by decide) (by simp[slots4]) (by decide) (fun _ _ _=>rfl),hR.put (by decide) (by decide) (fun q hq e=>by
      simp only[deps4,List.mem_cons,List.not_mem_nil,or_false] at hq
      rcases hq with rfl|rfl|rfl|rfl|rfl|rfl<;>first|exact absurd e (by decide)|exact n3 _ (by kernel_rfl))⟩
    ·have e2o:a.tmps[2]?.getD undef=.pointer (some ⟨v.heap.size,0,none⟩):=by simpa[Act.eval] using hS.old 2 (.pointer (some ⟨v.heap.size,0,none⟩)) (by simp)
     have BY:=hR.box (l:=_) BX.out hK.le (by omega)
     intro rest hk
     refine co_op hZ hXX TT.toTable (by decide) (R:=fun z u=>z=.agg #[.slice kA p.ks.length kc,.slice fA p.fs.length fc,.int .i64 p.most]∧Same u y) rfl rfl (by kernel_rfl) (fun u hu=>⟨.agg #[.slice kA p.ks.length kc,.slice fA p.fs.length fc,.int .i64 p.most],u, ?_,rfl,hu⟩) (fun z u hh=> ?_)
     ·have d0:u.cell? ⟨v.heap.size,0,none⟩=some (.slice kA p.ks.length kc):=(by unfold World.cell?;rw[hu.heap];exact BY.c 0 _ rfl)
      have d1:u.cell? ⟨v.heap.size,1,none⟩=some (.slice fA p.fs.length fc):=(by unfold World.cell?;rw[hu.heap];exact BY.c 1 _ rfl)
      have d2:u.cell? ⟨v.heap.size,2,none⟩=some (.int .i64 p.most):=(by unfold World.cell?;rw[hu.heap];exact BY.c 2 _ rfl)
      simp[go_sem,execOp,e2o,d0,d1,d2]
     obtain⟨rfl,hu⟩:=hh
     refine co_same hu ?_
     exact hk X _ y ⟨lv,sv,ev,hS.put (i:=2) rfl (by decide) (by simp[slots4]) (by decide) (fun _ _ _=>rfl),hR.put (by decide) (by decide) (fun q hq e=>by
      simp only[deps4,List.mem_cons,List.not_mem_nil,or_false] at hq
      rcases hq with rfl|rfl|rfl|rfl|rfl|rfl<;>first|exact absurd e (by decide)|exact n3 _ (by kernel_rfl))⟩
    ·have e2g:a.tmps[24]?.getD undef=.agg #[.slice kA p.ks.length kc,.slice fA p.fs.length fc,.int .i64 p.most]:=by simpa[Act.eval] using(show a.eval (.tmp 24)=.agg #[.slice kA p.ks.length kc,.slice fA p.fs.length fc,.int .i64 p.most] from hS.got 2 24 rfl (n3 2 (by kernel_rfl)))
     have h3:listed.getD 3 false=false:=by rw[getD_flip (by rw[hs];decide) false true];exact n1
     have h6:listed.getD 6 false=false:=by
      cases hq:listed.getD 6 false with
      |false=>rfl
      |true=>have:=hR.cl (6,3) (by simp[deps4]) hq;rw[h3] at this;cases this
     obtain⟨hx1,hcy⟩:=hR.pre h6
     intro rest hk
     refine co_call2 hZ hXX rfl rfl (by decide) rfl Try.func23 (by kernel_rfl) (by kernel_rfl) (vals:=#[.agg #[.slice kA p.ks.length kc,.slice fA p.fs.length fc,.int .i64 p.most]]) (by simp[Act.eval,e2g]) ?_
     refine first_co hZ hXX (PnAt.mk (HQ.out.ks.chgK hcy) (HQ.out.fs.chg byR_flat hcy (fun _ _=>id))) hks2 hfs2 _ _ fun e X' y' hq=> ?_
     obtain⟨rfl,hown,hc⟩:=hq
     rw[Frame.finish_at]
     refine hk X' _ y' ⟨e,sv,ev,hS.put (i:=3) rfl (by decide) (by simp[slots4]) (by decide) (fun j hj _=>val4_lv hj),⟨fun _=>⟨hx1,hcy.trans hc (fun _ _=>id)⟩,fun _ _=>hown.mono hcy.size,fun e6=>(by rw[getD_ne (by decide),h6] at e6;cases e6),fun q hq e=>cl_put hR.cl (fun q hq e=>by
      simp only[deps4,List.mem_cons,List.not_mem_nil,or_false] at hq
      rcases hq with rfl|rfl|rfl|rfl|rfl|rfl<;>first|exact absurd e (by decide)|exact n3 _ (by kernel_rfl)) q hq e⟩⟩
    ·have e2o:a.tmps[2]?.getD undef=.pointer (some ⟨v.heap.size,0,none⟩):=by simpa[Act.eval] using hS.old 2 (.pointer (some ⟨v.heap.size,0,none⟩)) (by simp)
     intro rest hk
     refine co_value hZ hXX (.pointer (some ⟨v.heap.size,2,none⟩)) rfl rfl (by decide) (fun _=>by simp[go_sem,execOp,e2o]) (fun _=>by simp[go_sem,execOp,e2o]) ?_
     exact hk X _ y ⟨lv,sv,ev,hS.put (i:=4) rfl (by decide) (by simp[slots4]) (by decide) (fun _ _ _=>rfl),hR.put (by decide) (by decide) (fun q hq e=>by
      simp only[deps4,List.mem_cons,List.not_mem_nil,or_false] at hq
      rcases hq with rfl|rfl|rfl|rfl|rfl|rfl<;>first|exact absurd e (by decide)|exact n3 _ (by kernel_rfl))⟩
    ·have e4g:a.tmps[26]?.getD undef=.pointer (some ⟨v.heap.size,2,none⟩):=by simpa[Act.eval] using(show a.eval (.tmp 26)=.pointer (some ⟨v.heap.size,2,none⟩) from hS.got 4 26 rfl (n3 4 (by kernel_rfl)))
     have BY:=hR.box (l:=_) BX.out hK.le (by omega)
     intro rest hk
     refine co_op hZ hXX TT.toTable (by decide) (R:=fun z u=>z=.int .i64 p.most∧Same u y) rfl rfl (by kernel_rfl) (fun u hu=>⟨.int .i64 p.most,u, ?_,rfl,hu⟩) (fun z u hh=> ?_)
     ·have d0:u.cell? ⟨v.heap.size,0,none⟩=some (.slice kA p.ks.length kc):=(by unfold World.cell?;rw[hu.heap];exact BY.c 0 _ rfl)
      have d1:u.cell? ⟨v.heap.size,1,none⟩=some (.slice fA p.fs.length fc):=(by unfold World.cell?;rw[hu.heap];exact BY.c 1 _ rfl)
      have d2:u.cell? ⟨v.heap.size,2,none⟩=some (.int .i64 p.most):=(by unfold World.cell?;rw[hu.heap];exact BY.c 2 _ rfl)
      simp[go_sem,execOp,e4g,d2]
     obtain⟨rfl,hu⟩:=hh
     refine co_same hu ?_
     exact hk X _ y ⟨lv,sv,ev,hS.put (i:=5) rfl (by decide) (by simp[slots4]) (by decide) (fun _ _ _=>rfl),hR.put (by decide) (by decide) (fun q hq e=>by
      simp only[deps4,List.mem_cons,List.not_mem_nil,or_false] at hq
      rcases hq with rfl|rfl|rfl|rfl|rfl|rfl<;>first|exact absurd e (by decide)|exact n3 _ (by kernel_rfl))⟩
    ·have e1g:a.tmps[23]?.getD undef=.iface 27 (.pointer (some ⟨b0,0,none⟩)):=by simpa[Act.eval] using(show a.eval (.tmp 23)=.iface 27 (.pointer (some ⟨b0,0,none⟩)) from hS.got 1 23 rfl (n3 1 (by kernel_rfl)))
     have e3g:a.tmps[25]?.getD undef=lv:=by simpa[Act.eval] using(show a.eval (.tmp 25)=lv from hS.got 3 25 rfl (n3 3 (by kernel_rfl)))
     have e5g:a.tmps[27]?.getD undef=.int .i64 p.most:=by simpa[Act.eval] using(show a.eval (.tmp 27)=.int .i64 p.most from hS.got 5 27 rfl (n3 5 (by kernel_rfl)))
     have h6:listed.getD 6 false=false:=by rw[getD_flip (by rw[hs];decide) false true];exact n1
     obtain⟨hx1,hcy⟩:=hR.pre h6
     have hown:=hR.lst h6 (n3 3 (by kernel_rfl))
     subst hx1
     intro rest hk
     refine co_call2 hZ hXX rfl rfl (by decide) rfl Try.func21 (by kernel_rfl) (by kernel_rfl) (vals:=#[.iface 27 (.pointer (some ⟨b0,0,none⟩)),lv,.int .i64 p.most]) (by simp[Act.eval,e1g,e3g,e5g]) ?_
     by_cases hne:newE (firstS p).length p.most=0
     ·obtain⟨hka,hde⟩:=hKa hfar hne
      obtain⟨hn1,hn2⟩:=newE_ok hne
      have hy:Chg (fun _=>False) v y:=C3.out.trans hcy (fun _ _=>id)
      refine New_co (D:=DW v0 b0 (.slice kA p.ks.length kc) p.ks) (x:=rw0 p.ks) (F:=fun k=>WBf b0 (.slice none 0 0) (.slice none 0 0) (.slice none 0 0) (.slice none 0 0) k∨k<v0.heap.size) (l:=firstS p) (most:=p.most) (DW_ok hka hde (by omega)) hZ L hown.sl hn1 hn2 ⟨_,_,_,_,WX0 (WB.out.chg hcy id) (by have:=hK.le;omega),hK.still hy,fun k=>Iff.rfl⟩ (DW_inv0 (fun e=>by simp[firstS,e] at hn1) hfn) _ _ fun e X' y' hq=> ?_
      obtain⟨rfl,hA⟩:=hq
      rw[Frame.finish_at]
      refine hk X' _ y' ⟨lv,.pointer (some ⟨y.heap.size,0,none⟩),.int .i64 0,hS.put (i:=6) (V':=val4 _ _ _ _ _ _ _) rfl (by decide) (by simp[slots4]) (by decide) (fun j hj hl=>val4_sv (by
       by_cases h1:6≤j∧j<12
       ·have:=hR.six h1.1 h1.2 hl;rw[h6] at this;cases this
       ·omega)),⟨fun e=>(by rw[getD_self (by rw[hs];decide)] at e;cases e),fun e=>(by rw[getD_self (by rw[hs];decide)] at e;cases e),fun _=> .inr ⟨hne,y,_,rfl,rfl,hcy,⟨_,_,_,_,WX0 (WB.out.chg hcy id) (by have:=hK.le;omega),hK.still hy,fun k=>Iff.rfl⟩,fun k hk=>hk.elim (fun e=> .inr (by simpa[WBf,Value.ownBlock] using e)) .inl,hA⟩,fun q hq e=>cl_put hR.cl (fun q hq e=>by
      simp only[deps4,List.mem_cons,List.not_mem_nil,or_false] at hq
      rcases hq with rfl|rfl|rfl|rfl|rfl|rfl<;>first|exact absurd e (by decide)|exact n3 _ (by kernel_rfl)) q hq e⟩⟩
     ·refine new_err_co (o:=some b0) hZ hXX hown.sl hne _ _ fun e X' y' hq=> ?_
      obtain⟨rfl,rfl,rfl⟩:=hq
      rw[Frame.finish_at]
      refine hk _ _ y' ⟨lv,.pointer none,.int .i64 (newE (firstS p).length p.most),hS.put (i:=6) (V':=val4 _ _ _ _ _ _ _) rfl (by decide) (by simp[slots4]) (by decide) (fun j hj hl=>val4_sv (by
       by_cases h1:6≤j∧j<12
       ·have:=hR.six h1.1 h1.2 hl;rw[h6] at this;cases this
       ·omega)),⟨fun e=>(by rw[getD_self (by rw[hs];decide)] at e;cases e),fun e=>(by rw[getD_self (by rw[hs];decide)] at e;cases e),fun _=> .inl ⟨hne,rfl,rfl,rfl,hcy⟩,fun q hq e=>cl_put hR.cl (fun q hq e=>by
      simp only[deps4,List.mem_cons,List.not_mem_nil,or_false] at hq
      rcases hq with rfl|rfl|rfl|rfl|rfl|rfl<;>first|exact absurd e (by decide)|exact n3 _ (by kernel_rfl)) q hq e⟩⟩
    ·have e6g:a.tmps[28]?.getD undef=.tuple #[sv,ev]:=by simpa[Act.eval] using(show a.eval (.tmp 28)=.tuple #[sv,ev] from hS.got 6 28 rfl (n3 6 (by kernel_rfl)))
     intro rest hk
     refine co_value hZ hXX (.tuple #[sv,ev]) rfl rfl (by decide) (fun _=>by simp[go_sem,execOp,e6g]) (fun _=>by simp[go_sem,execOp,e6g]) ?_
     exact hk X _ y ⟨lv,sv,ev,hS.put (i:=7) rfl (by decide) (by simp[slots4]) (by decide) (fun _ _ _=>rfl),hR.put (by decide) (by decide) (fun q hq e=>by
      simp only[deps4,List.mem_cons,List.not_mem_nil,or_false] at hq
      rcases hq with rfl|rfl|rfl|rfl|rfl|rfl<;>first|exact absurd e (by decide)|exact n3 _ (by kernel_rfl))⟩
    ·have e7g:a.tmps[21]?.getD undef=.tuple #[sv,ev]:=by simpa[Act.eval] using(show a.eval (.tmp 21)=.tuple #[sv,ev] from hS.got 7 21 rfl (n3 7 (by kernel_rfl)))
     intro rest hk
     refine co_value hZ hXX (sv) rfl rfl (by decide) (fun _=>by simp[go_sem,execOp,e7g]) (fun _=>by simp[go_sem,execOp,e7g]) ?_
     exact hk X _ y ⟨lv,sv,ev,hS.put (i:=8) rfl (by decide) (by simp[slots4]) (by decide) (fun _ _ _=>rfl),hR.put (by decide) (by decide) (fun q hq e=>by
      simp only[deps4,List.mem_cons,List.not_mem_nil,or_false] at hq
      rcases hq with rfl|rfl|rfl|rfl|rfl|rfl<;>first|exact absurd e (by decide)|exact n3 _ (by kernel_rfl))⟩
    ·have e7g:a.tmps[21]?.getD undef=.tuple #[sv,ev]:=by simpa[Act.eval] using(show a.eval (.tmp 21)=.tuple #[sv,ev] from hS.got 7 21 rfl (n3 7 (by kernel_rfl)))
     intro rest hk
     refine co_value hZ hXX (ev) rfl rfl (by decide) (fun _=>by simp[go_sem,execOp,e7g]) (fun _=>by simp[go_sem,execOp,e7g]) ?_
     exact hk X _ y ⟨lv,sv,ev,hS.put (i:=9) rfl (by decide) (by simp[slots4]) (by decide) (fun _ _ _=>rfl),hR.put (by decide) (by decide) (fun q hq e=>by
      simp only[deps4,List.mem_cons,List.not_mem_nil,or_false] at hq
      rcases hq with rfl|rfl|rfl|rfl|rfl|rfl<;>first|exact absurd e (by decide)|exact n3 _ (by kernel_rfl))⟩
    ·have e8g:a.tmps[29]?.getD undef=sv:=by simpa[Act.eval] using(show a.eval (.tmp 29)=sv from hS.got 8 29 rfl (n3 8 (by kernel_rfl)))
     intro rest hk
     refine co_value hZ hXX (sv) rfl rfl (by decide) (fun _=>by simp[go_sem,execOp,e8g]) (fun _=>by simp[go_sem,execOp,e8g]) ?_
     exact hk X _ y ⟨lv,sv,ev,hS.put (i:=10) rfl (by decide) (by simp[slots4]) (by decide) (fun _ _ _=>rfl),hR.put (by decide) (by decide) (fun q hq e=>by
      simp only[deps4,List.mem_cons,List.not_mem_nil,or_false] at hq
      rcases hq with rfl|rfl|rfl|rfl|rfl|rfl<;>first|exact absurd e (by decide)|exact n3 _ (by kernel_rfl))⟩
    ·have e9g:a.tmps[30]?.getD undef=ev:=by simpa[Act.eval] using(show a.eval (.tmp 30)=ev from hS.got 9 30 rfl (n3 9 (by kernel_rfl)))
     intro rest hk
     refine co_value hZ hXX (ev) rfl rfl (by decide) (fun _=>by simp[go_sem,execOp,e9g]) (fun _=>by simp[go_sem,execOp,e9g]) ?_
     exact hk X _ y ⟨lv,sv,ev,hS.put (i:=11) rfl (by decide) (by simp[slots4]) (by decide) (fun _ _ _=>rfl),hR.put (by decide) (by decide) (fun q hq e=>by
      simp only[deps4,List.mem_cons,List.not_mem_nil,or_false] at hq
      rcases hq with rfl|rfl|rfl|rfl|rfl|rfl<;>first|exact absurd e (by decide)|exact n3 _ (by kernel_rfl))⟩
   ·intro listed X a y hs hI hi
    obtain⟨lv,sv,ev,hS,hR⟩:=hI
    have hall:∀j,j<12→listed.getD j false=true:=fun j hj=>by
     cases hq:listed.getD j true with
     |false=>exact absurd hi (ready_some (by kernel_rfl) hs (n:=j) hj hq)
     |true=>rw[getD_flip (by rw[hs];exact hj) false true];exact hq
    have E:EvA a 47 [(1,.slice pA pk.length pc),(2,.pointer (some ⟨v.heap.size,0,none⟩)),(4,.pointer none),(5,.pointer none),(6,.pointer (some ⟨b0,0,none⟩)),(7,sv),(8,ev)]:=⟨hS.size,hS.df,fun i u hu=>by
     simp only[List.mem_cons,Prod.mk.injEq,List.not_mem_nil,or_false] at hu
     rcases hu with⟨rfl,rfl⟩|⟨rfl,rfl⟩|⟨rfl,rfl⟩|⟨rfl,rfl⟩|⟨rfl,rfl⟩|⟨rfl,rfl⟩|⟨rfl,rfl⟩
     ·exact hS.old _ _ (by simp)
     ·exact hS.old _ _ (by simp)
     ·exact hS.old _ _ (by simp)
     ·exact hS.old _ _ (by simp)
     ·exact hS.old _ _ (by simp)
     ·exact hS.got 10 7 rfl (hall 10 (by omega))
     ·exact hS.got 11 8 rfl (hall 11 (by omega))⟩
    have hN:=hR.new (hall 6 (by omega))
    clear hS hR hall hi hs
    refine act47 (C:=fun a=>Co Try.prog Z 0 X (G ((Go.Conc.base 10).at a _) _) y) E (fun Jr Jf Jk J1 J9 Jw Jn Jv Jb Js Jy Jd J2 J0 Ya J3 Jt Jq Jh Ju Jm Yd Jc Je Ji Jx Jl J6 Jp J8 Jo Jj Yb Jg J4 J7 Jz Ja Yc J5=> ?_)
    have hks3:=far_ok hfar
    rcases hN with⟨hne,rfl,rfl,rfl,hcy⟩|⟨hne,u0,F,rfl,rfl,hcu,hm,hF,hA⟩
    ·have hbad:plBad p pk=true:=by simp[plBad,hne]
     generalize newE (firstS p).length p.most=ee at hne⊢
     refine co_region_end hZ hX ?_
     refine co_seq hZ hX ?_
     refine co_seq hZ hX ?_
     refine co_code hZ hX TT (by decide) (by kernel_rfl) (by kernel_rfl) fun K hKK u hu=> ?_
     go_wp2_with fail
     refine hKK.out _ _ (co_same hu ?_)
     clear hKK K hu u
     refine co_cond (t:=true) hZ hX (by simp[Act.eval,hne]) ?_
     simp only[↓reduceIte]
     refine co_seq hZ hX ?_
     refine co_code hZ hX TT (by decide) (by kernel_rfl) (by kernel_rfl) fun K hKK u hu=> ?_
     go_wp2_with fail
     refine hKK.out _ _ (co_same hu ?_)
     clear hKK K hu u
     refine co_ret hZ hX ?_
     refine c_leave (n:=0) (J:=fun _ a=>Co Try.prog Z 0 (g.fx Try.prog κL 0) a y) (Co.calmly hZ hX) (x:=.tuple #[.pointer none,.pointer none]) rfl rfl Try.func10 (fun w=>by simp[results,Try.results10,go_sem]) (fun w=>by simp[results,Try.results10,go_sem]) ?_
     exact HP.out _ _ y (by unfold PlQ;rw[if_pos hbad];exact⟨rfl,⟨g,rfl,L⟩,C3.out.trans hcy (fun _ _=>id)⟩)
    ·have hbad:¬plBad p pk=true:=by simp[plBad,hne,hfar];omega
     obtain⟨hka,hde⟩:=hKa hfar hne
     have hD:=DW_ok (b:=b0) hka hde (by omega)
     obtain⟨g1,bs1,M1,rfl,hS1,hc1,hM1,_⟩:=hA
     have hX1:(g1.fx Try.prog κL 0).Ok Try.prog 0:=by obtain⟨_,_,_,cr,_⟩:=hS1;exact cr.ok.fx κL_ok
     have hz:v.heap.size≤u0.heap.size:=(C3.out.trans hcu (fun _ _=>id)).size
     have hcv:Chg M1 u0 y∨True:=.inr trivial
     refine co_region_end hZ hX1 ?_
     refine co_seq hZ hX1 ?_
     refine co_seq hZ hX1 ?_
     refine co_code hZ hX1 TT (by decide) (by kernel_rfl) (by kernel_rfl) fun K hKK u hu=> ?_
     go_wp2_with fail
     refine hKK.out _ _ (co_same hu ?_)
     clear hKK K hu u
     refine co_cond (t:=false) hZ hX1 (by simp[Act.eval]) ?_
     simp only[Bool.false_eq_true,↓reduceIte]
     refine co_skip hZ hX1 ?_
     refine co_seq hZ hX1 ?_
     refine co_seq hZ hX1 ?_
     refine co_code hZ hX1 TT (by decide) (by kernel_rfl) (by kernel_rfl) fun K hKK u hu=> ?_
     go_wp2_with fail
     refine hKK.out _ _ (co_same hu ?_)
     clear hKK K hu u
     refine co_block hZ hX1 ?_
     refine co_loop hZ hX1 ?_
     have hPl:=picks_loop (lv:=.slice pA pk.length pc) (pk:=pk) (s:=u0.heap.size) (b:=b0) (c:=c) (cs:=cs) (B:=u0.heap.size) hD hZ (by omega) hkb (fun x F w hm=>by
      obtain⟨_,_,_,_,_,hk,_⟩:=hm
      exact hp0 w hk) pk.length 0 (by omega) hS1 (by rw[(begS_closed _ _).1];rfl) (fun X' v' hA=>HP.out _ X' v' (by
      unfold PlQ
      rw[if_neg hbad]
      rw[List.drop_zero] at hA
      obtain⟨g2,bs2,M2,e,hL2,c2,m2⟩:=hA.open hD
      have hk2:Kp v0.heap.size v0 v':=by
       obtain⟨_,_,_,_,hm2,_⟩:=hL2.sm
       obtain⟨_,_,_,_,_,hk,_⟩:=hm2
       exact hk
      have hM1':∀k,M1 k→k<v0.heap.size∨v.heap.size≤k:=fun k hk=>by
       rcases hM1 k hk with(e|e)|e
       ·rcases hF k e with e|e
        ·exact .inl e
        ·exact .inr (by omega)
       ·exact .inr (by omega)
       ·exact .inr (by omega)
      have hzy:v.heap.size≤y.heap.size:=Nat.le_trans hz hc1.size
      have cv:Chg (fun k=>M1 k∨(F k∨u0.heap.size≤k)) v v':=((((C3.out.trans hcu (fun _ _=>id)).mono (fun _ _ e=>e.elim)).trans hc1 (fun _ _ e=> .inr e)).trans c2 (fun _ _ e=> .inl e))
      refine⟨u0.heap.size,b0,u0.heap.size,g2,bs2,M2,rfl,e,hL2,kp_chg hK hk2 cv (fun k hk hlt=> ?_),fun k hk=> ?_⟩
      ·rcases hk with e|e|e
       ·rcases hM1' k e with e|e<;>omega
       ·rcases hF k e with e|e<;>omega
       ·omega
      ·rcases m2 k hk with e|e
       ·exact hM1' k e
       ·exact .inr (by omega)))
     simp only[lbPl,restPl,bodyPl,Try.f10,Option.getD_some,fstC,sndC,inC] at hPl
     exact hPl _ _ _ _ _ _ _ _ _ _ _ _ _ _ _ _ _ _ _ _ _ _ _ _ _ _ _ _ _ _ _ _ _ _ _ _ _ _ _ _ _
   ·exact⟨undef,undef,undef,⟨rfl,rfl,fun i u hu=>by
     simp only[List.mem_cons,Prod.mk.injEq,List.not_mem_nil,or_false] at hu
     rcases hu with⟨rfl,rfl⟩|⟨rfl,rfl⟩|⟨rfl,rfl⟩|⟨rfl,rfl⟩|⟨rfl,rfl⟩<;>rfl,fun i s _ hl=>by rw[rep_false] at hl;cases hl⟩,⟨fun _=>⟨rfl,Chg.refl _ _⟩,fun _ hl=>(by rw[rep_false] at hl;cases hl),fun hl=>(by rw[rep_false] at hl;cases hl),fun q _ hl=>(by rw[rep_false] at hl;cases hl)⟩⟩
end Co
end Go.Proofs.Ytlngbdggehghgaa

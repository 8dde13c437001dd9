/-
  The laws' first, far, played, in company. Conditions: as each theorem says.
-/
import Derived.Test.YtlngbdggehghgaaCyD
namespace Go.Proofs.Ytlngbdggehghgaa
set_option linter.unusedSimpArgs false
set_option linter.unusedVariables false
open Go.RowKit
theorem Sl.chgK {w w':World} {v:Value} {l:List (List De)} (h:Sl dlR w v l) (c:Chg (fun _=>False) w w'):Sl dlR w' v l:=by
 obtain⟨A,c',rfl,hc,hm,h⟩:=h
 refine⟨A,c',rfl,hc,hm, ?_⟩
 rcases h with h|⟨b,off,rfl,hlt,h⟩
 ·exact .inl h
 ·refine .inr ⟨b,off,rfl,Nat.lt_of_lt_of_le hlt c.size,fun i x hi=> ?_⟩
  obtain⟨cs,⟨A',k',h1,h3⟩,h2⟩:=h i x hi
  exact⟨cs,⟨A',k',h1,h3.chg deR_flat c (fun _ _=>id)⟩,fun j u hu=>c.cell (h2 j u hu) id⟩
namespace Co
open Go.Conc
noncomputable def body23:Code:=Try.f23.body.getD .skip
set_option maxRecDepth 100000 in
set_option maxHeartbeats 8000000 in
theorem first_co {Z:Goal} {X:Fx} {v:World} {p:Pn} {kv fv:Value} (hZ:Z.Ok Try.prog) (hX:X.Ok Try.prog 0) (h:PnAt v p kv fv) (hks:p.ks.length≤1000) (hfs:p.fs.length≤1000):
 Calls Try.prog Z 0 X 23 #[.agg #[kv,fv,.int .i64 p.most]] v fun e X' v'=>X'=X∧Own tkR 35 v.heap.size v' e (firstS p)∧Chg (fun _=>False) v v':=by
 intro c cs hpost
 have HP:=Hd.mk hpost
 clear hpost
 obtain⟨kA,kc,rfl,k1,k2,_⟩:=h.ks.open
 obtain⟨fA,fc,rfl,f1,f2,_⟩:=h.fs.open
 have HH:=Hd.mk h
 clear h
 rw[enter_at _ Try.func23 (by kernel_rfl:Try.f23.body=some body23),Try.ntmps23]
 walk_nrm
 simp only[body23,Try.f23,Option.getD_some]
 refine co_seq hZ hX ?_
 refine co_code hZ hX TT (by decide) (by kernel_rfl) (by kernel_rfl) fun K hK u hu=> ?_
 have hz0:u.heap.size=v.heap.size:=by rw[hu.heap]
 go_wp2_with fail
 refine hK.out _ _ (co_same (hu.alloc _) ?_)
 clear hK K hu hz0 u
 refine at_world (fun y=>Chg (fun _=>False) v y∧v.heap.size<y.heap.size∧y.cell? ⟨v.heap.size,0,none⟩=some (.slice kA p.ks.length kc)∧y.cell? ⟨v.heap.size,1,none⟩=some (.slice fA p.fs.length fc)) ⟨Chg.alloc _ _ _,by simp,(box3 v _ _ _ _).1,(box3 v _ _ _ _).2.1⟩ fun x1 ⟨c1,hz1,c0',c1'⟩=> ?_
 have C0:=Hd.mk c1
 clear c1
 refine co_seq hZ hX ?_
 refine co_code hZ hX TT (by decide) (by kernel_rfl) (by kernel_rfl) fun K hK u hu=> ?_
 go_wp2_with fail
 refine hK.out _ _ (co_same hu ?_)
 clear hK K hu u
 refine co_seq hZ hX ?_
 refine co_code hZ hX TT (by decide) (by kernel_rfl) (by kernel_rfl) fun K hK u hu=> ?_
 have C1:=Hd.mk (C0.out.trans (same_chg (F:=fun _=>False) hu) (fun _ _=>id))
 have HH:=Lib.hid (PnAt.mk (HH.out.ks.chgK C1.out) (HH.out.fs.chg byR_flat C1.out (fun _ _=>id)))
 have c0:u.cell? ⟨v.heap.size,0,none⟩=some (.slice kA p.ks.length kc):=by unfold World.cell? at c0'⊢;rw[hu.heap];exact c0'
 have c1:u.cell? ⟨v.heap.size,1,none⟩=some (.slice fA p.fs.length fc):=by unfold World.cell? at c1'⊢;rw[hu.heap];exact c1'
 have hz:v.heap.size<u.heap.size:=by rw[hu.heap];exact hz1
 have hz2:v.heap.size≤u.heap.size:=Nat.le_of_lt hz
 clear c0' c1' hz1 C0 hu
 go_wp2_with fail
 go_loopw [3,4] (fun v i wr=> ∃k:Nat,k≤p.fs.length∧(p.ks=[]→k=0)∧i=.int .i64 k∧Hid (Below u.heap.size u wr)∧Hid (Own tkR 35 u.heap.size wr v ((p.fs.take k).map (firstT p.ks.length)))) (fun _ i _=>p.fs.length-(intOf i).toNat)
 case atStart=>exact⟨0,by omega,fun _=>rfl,rfl,Below.refl _ _,Own.nil _ _ _ _⟩
 case round=>
  obtain⟨k,hk,hk0,rfl,hb,hown⟩:=hrel
  have HK0:=Lib.hid hk0
  clear hk0
  have d0:=cell_later hb.out c0
  have d1:=cell_later hb.out c1
  by_cases hn:p.ks.length=0
  ·have HN:=Lib.hid hn
   rw[hn] at d0⊢
   clear hn
   by_cases hlt:k<p.fs.length
   ·go_wp2_with fail
    have hnil:=List.eq_nil_of_length_eq_zero HN.out
    have h1:=hown.out
    rw[HK0.out hnil] at h1
    have HFIN:Own tkR 35 v.heap.size wr u3 (firstS p):=by simpa[firstS,hnil] using h1.mono hz2
    clear h1
    refine hK.out _ _ ?_
    have C2:=Hd.mk (C1.out.trans (Chg.of_below (F:=fun _=>False) hb.out) (fun _ _=>id))
    have hfin:=Hd.mk HFIN
    refine co_seq hZ hX ?_
    refine co_code hZ hX TT (by decide) (by kernel_rfl) (by kernel_rfl) fun K hK u2 hu2=> ?_
    go_wp2_with fail
    refine hK.out _ _ (co_same hu2 ?_)
    refine co_ret hZ hX ?_
    refine c_leave (n:=0) (J:=fun _ a=>Co Try.prog Z 0 X a wr) (Co.calmly hZ hX) (x:=u3) rfl rfl Try.func23 (fun w=>by simp[results,Try.results23,go_sem]) (fun w=>by simp[results,Try.results23,go_sem]) ?_
    exact HP.out _ _ wr ⟨rfl,hfin.out,C2.out⟩
   ·go_wp2_with fail
    have hnil:=List.eq_nil_of_length_eq_zero HN.out
    have h1:=hown.out
    rw[HK0.out hnil] at h1
    have HFIN:Own tkR 35 v.heap.size wr u3 (firstS p):=by simpa[firstS,hnil] using h1.mono hz2
    clear h1
    refine hK.out _ _ ?_
    have C2:=Hd.mk (C1.out.trans (Chg.of_below (F:=fun _=>False) hb.out) (fun _ _=>id))
    have hfin:=Hd.mk HFIN
    refine co_seq hZ hX ?_
    refine co_code hZ hX TT (by decide) (by kernel_rfl) (by kernel_rfl) fun K hK u2 hu2=> ?_
    go_wp2_with fail
    refine hK.out _ _ (co_same hu2 ?_)
    refine co_ret hZ hX ?_
    refine c_leave (n:=0) (J:=fun _ a=>Co Try.prog Z 0 X a wr) (Co.calmly hZ hX) (x:=u3) rfl rfl Try.func23 (fun w=>by simp[results,Try.results23,go_sem]) (fun w=>by simp[results,Try.results23,go_sem]) ?_
    exact HP.out _ _ wr ⟨rfl,hfin.out,C2.out⟩
  ·have hn0:0<p.ks.length:=by omega
   by_cases hlt:k<p.fs.length
   ·obtain⟨b,off,cs,rfl,hbl,⟨rfl,q0,q1⟩,h2⟩:=HH.out.fs.at_ hlt
    have h3:=h2 0 _ rfl
    simp only[byR,Nat.mul_one,Nat.add_zero] at h3
    have h3:=cell_later hb.out h3
    clear h2
    have HX:=Lib.hid (show p.fs.take (k+1)=p.fs.take k++[p.fs[k]] from List.take_succ_eq_append_getElem hlt)
    generalize p.fs[k]=f at q0 q1 h3 HX
    have hln:(List.map (firstT p.ks.length) (List.take k p.fs)).length=k:=by simp;omega
    obtain⟨oA,oc,rfl,_⟩:=hown.out.form
    rw[hln] at hown⊢
    go_upto_region 5 with fail
    refine wp_region_T (fun _=>false) (fun X=>Below u.heap.size wr X) (fun _=>True) (by kernel_rfl) ?_
    have HS:Below u.heap.size wr wr.drew:=⟨rfl,rfl,rfl,Nat.le_refl _,fun _ _=>rfl⟩
    have hzz:=hb.out.size
    refine wpAnyT_take (i:=0) (v:=.slice oA k oc) rfl (by decide+kernel) (by decide+kernel) (by decide+kernel) rfl (fun _ _ _ h=>by cases(And.left h)) (.inl ⟨rfl,fun W hS=>by go_simp⟩) HS (fun _=>trivial) ?_
    refine wpAnyT_take (i:=1) (v:=.pointer (some ⟨v.heap.size,1,none⟩)) rfl (by decide+kernel) (by decide+kernel) (by decide+kernel) rfl (fun _ _ _ h=>by cases(And.left h)) (.inl ⟨rfl,fun W hS=>by go_simp⟩) HS (fun _=>trivial) ?_
    refine wpAnyT_take (i:=2) (v:=.slice (some ⟨b,off,none⟩) p.fs.length fc) rfl (by decide+kernel) (by decide+kernel) (by decide+kernel) rfl (fun _ _ _ h=>by cases(And.left h)) (.inl ⟨rfl,fun W hS=>by have hc0:=(hS.cell (by show v.heap.size<_;omega)).trans d1;go_simp⟩) HS (fun _=>trivial) ?_
    refine wpAnyT_take (i:=3) (v:=.int .i64 (k:Int)) rfl (by decide+kernel) (by decide+kernel) (by decide+kernel) rfl (fun _ _ _ h=>by cases(And.left h)) (.inl ⟨rfl,fun W hS=>by go_simp⟩) HS (fun _=>trivial) ?_
    refine wpAnyT_take (i:=4) (v:=.pointer (some ⟨b,off+k,none⟩)) rfl (by decide+kernel) (by decide+kernel) (by decide+kernel) rfl (fun _ _ _ h=>by cases(And.left h)) (.inl ⟨rfl,fun W hS=>by go_simp⟩) HS (fun _=>trivial) ?_
    refine wpAnyT_take (i:=5) (v:=.int .u8 f) rfl (by decide+kernel) (by decide+kernel) (by decide+kernel) rfl (fun _ _ _ h=>by cases(And.left h)) (.inl ⟨rfl,fun W hS=>by have hc0:=(hS.cell (by show b<_;omega)).trans h3;go_simp⟩) HS (fun _=>trivial) ?_
    refine wpAnyT_take (i:=6) (v:=.int .i64 f) rfl (by decide+kernel) (by decide+kernel) (by decide+kernel) rfl (fun _ _ _ h=>by cases(And.left h)) (.inl ⟨rfl,fun W hS=>by go_simp;exact IntWalk.i64_in _ (by omega)⟩) HS (fun _=>trivial) ?_
    refine wpAnyT_take (i:=7) (v:=.pointer (some ⟨v.heap.size,0,none⟩)) rfl (by decide+kernel) (by decide+kernel) (by decide+kernel) rfl (fun _ _ _ h=>by cases(And.left h)) (.inl ⟨rfl,fun W hS=>by go_simp⟩) HS (fun _=>trivial) ?_
    refine wpAnyT_take (i:=8) (v:=.slice kA p.ks.length kc) rfl (by decide+kernel) (by decide+kernel) (by decide+kernel) rfl (fun _ _ _ h=>by cases(And.left h)) (.inl ⟨rfl,fun W hS=>by have hc0:=(hS.cell (by show v.heap.size<_;omega)).trans d0;go_simp⟩) HS (fun _=>trivial) ?_
    refine wpAnyT_take (i:=9) (v:=.int .i64 (p.ks.length:Int)) rfl (by decide+kernel) (by decide+kernel) (by decide+kernel) rfl (fun _ _ _ h=>by cases(And.left h)) (.inl ⟨rfl,fun W hS=>by go_simp⟩) HS (fun _=>trivial) ?_
    refine wpAnyT_take (i:=10) (v:=.int .i64 (f%(p.ks.length:Int))) rfl (by decide+kernel) (by decide+kernel) (by decide+kernel) rfl (fun _ _ _ h=>by cases(And.left h)) (.inl ⟨rfl,fun W hS=>by go_simp;exact IntWalk.rem_in _ _ q0⟩) HS (fun _=>trivial) ?_
    refine wpAnyT_take (i:=11) (v:=.agg #[.int .i64 7,.int .i64 (f%(p.ks.length:Int)),.int .i64 0,.int .i64 0,.int .i64 0,.int .i64 0,.int .i64 0]) rfl (by decide+kernel) (by decide+kernel) (by decide+kernel) rfl (fun _ _ _ h=>by cases(And.left h)) (.inl ⟨rfl,fun W hS=>by go_simp⟩) HS (fun _=>trivial) ?_
    refine wpAnyT_all (rs:=[12]) (by decide+kernel) (by simp) fun j hj=> ?_
    obtain rfl:j=12:=by simpa using hj
    clear hj
    refine heldOpT rfl fun K hK=> ?_
    go_wp2_with fail
    have OL:Own tkR 35 wr.heap.size (wr.alloc (.cells #[.int .i64 7,.int .i64 (f%(p.ks.length:Int)),.int .i64 0,.int .i64 0,.int .i64 0,.int .i64 0,.int .i64 0] 35)) (.slice (some ⟨wr.heap.size,0,none⟩) 1 1) [firstT p.ks.length f]:=Own.lit (R:=tkR) (cells:=(firstT p.ks.length f).cells) rfl (Nat.le_refl _) (Rep.many_one (R:=tkR) (x:=firstT p.ks.length f) rfl) rfl (by decide)
    have B0:Below wr.heap.size wr (wr.alloc (.cells #[.int .i64 7,.int .i64 (f%(p.ks.length:Int)),.int .i64 0,.int .i64 0,.int .i64 0,.int .i64 0,.int .i64 0] 35)).drew:=(ba wr _).trans ⟨rfl,rfl,rfl,Nat.le_refl _,fun _ _=>rfl⟩
    refine at_world (fun y=>Below u.heap.size wr y∧Below wr.heap.size wr y∧Own tkR 35 wr.heap.size y (.slice (some ⟨wr.heap.size,0,none⟩) 1 1) [firstT p.ks.length f]) ⟨B0.mono hb.out.size,B0,OL.up ⟨rfl,rfl,rfl,Nat.le_refl _,fun _ _=>rfl⟩⟩ fun y ⟨by1,by2,oy⟩=> ?_
    refine hK.out _ _ ⟨by1,fun _=>trivial, ?_⟩
    clear hK K OL HS
    refine wpAnyT_all (rs:=[13]) (by decide+kernel) (by simp) fun j hj=> ?_
    obtain rfl:j=13:=by simpa using hj
    clear hj
    refine heldOpT rfl fun K hK=> ?_
    have OY:=Lib.hid oy
    have HO:=Lib.hid (hown.out.up by2)
    clear oy
    refine wpList_append_sl _ rfl (.tmp 18) (.tmp 30) 69 rfl tkR u.heap.size 35 _ 56 Try.underlying69 infoK rfl (by decide) _ (List.map (firstT p.ks.length) (List.take k p.fs)) rfl HO.out _ [firstT p.ks.length f] rfl OY.out.sl (by simp;omega) (by decide) (by have:=by1.size;omega) (fun w' _ cs y h=>tkR_flat _ _ _ _ h) ?_
    intro v1 w2 hown1 hg1 hat1
    have B2:Below u.heap.size wr w2:=by1.grown hg1 (by have:=by1.size;omega) fun j hj=>(HO.out.lt j hj).1
    have hown1:=Lib.hid hown1
    clear hg1 hat1 HO OY
    go_wp2_with fail
    refine hK.out _ _ ⟨B2,fun _=>trivial, ?_⟩
    clear hK K
    refine wpAnyT_all (rs:=[14]) (by decide+kernel) (by simp) fun j hj=> ?_
    obtain rfl:j=14:=by simpa using hj
    clear hj
    refine heldOpT rfl fun K hK=> ?_
    go_wp2_with fail
    refine hK.out _ _ ⟨B2,fun _=>trivial, ?_⟩
    clear hK K
    refine wpAnyT_done (by decide+kernel) ?_ _
    go_wp2_with fail
    go_roundw
    case rel=>exact⟨k+1,by omega,fun e=>by rw[e] at hn0;simp at hn0,by go_num,hb.out.trans B2,by
     have h1:=hown1.out
     show Own _ _ _ _ _ _
     rw[HX.out,List.map_append]
     exact h1⟩
    case measure=>simp[intOf];omega
   ·have hke:k=p.fs.length:=by omega
    have HK:=Lib.hid hke
    clear hke
    go_wp2_with fail
    have hnil:p.ks≠[]:=fun e=>by rw[e] at hn0;simp at hn0
    have h1:=hown.out
    rw[HK.out,List.take_length] at h1
    have HFIN:Own tkR 35 v.heap.size wr u3 (firstS p):=by rw[firstS,if_neg hnil];exact h1.mono hz2
    clear h1
    refine hK.out _ _ ?_
    have C2:=Hd.mk (C1.out.trans (Chg.of_below (F:=fun _=>False) hb.out) (fun _ _=>id))
    have hfin:=Hd.mk HFIN
    refine co_seq hZ hX ?_
    refine co_code hZ hX TT (by decide) (by kernel_rfl) (by kernel_rfl) fun K hK u2 hu2=> ?_
    go_wp2_with fail
    refine hK.out _ _ (co_same hu2 ?_)
    refine co_ret hZ hX ?_
    refine c_leave (n:=0) (J:=fun _ a=>Co Try.prog Z 0 X a wr) (Co.calmly hZ hX) (x:=u3) rfl rfl Try.func23 (fun w=>by simp[results,Try.results23,go_sem]) (fun w=>by simp[results,Try.results23,go_sem]) ?_
    exact HP.out _ _ wr ⟨rfl,hfin.out,C2.out⟩
end Co
end Go.Proofs.Ytlngbdggehghgaa

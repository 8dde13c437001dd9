/-
  Walks of the laws' far and first: plans. Conditions: as each theorem says.
-/
import Derived.Test.YtlngbdggehghgaaScL
namespace Go.Proofs.Ytlngbdggehghgaa
set_option linter.unusedSimpArgs false
set_option linter.unusedVariables false
open Go.RowKit
def dlR:Rep (List De) where
 size:=1
 is w cs l:=∃A c,cs=[.slice A l.length c]∧Sl deR w (.slice A l.length c) l
 len h:=by obtain⟨_,_,rfl,_⟩:=h;rfl
 one h:=by obtain⟨_,_,rfl,_⟩:=h;simp[Value.oneCell']
 up hb h:=by obtain⟨A,c,h1,h2⟩:=h;exact⟨A,c,h1,h2.up hb⟩
def byR:Rep Int where
 size:=1
 is _ cs x:=cs=[.int .u8 x]∧0≤x∧x<256
 len h:=by rw[h.1];rfl
 one h:=by rw[h.1];simp[Value.oneCell']
 up _ h:=h
theorem byR_flat:byR.flat:=fun _ _ _ _ h=>h
structure Pn where
 ks:List (List De)
 fs:List Int
 most:Int
def farS (p:Pn):Bool:=p.ks.any (fun l=>decide (20<l.length))||decide (10<p.ks.length)||decide (250<p.fs.length)
def firstT (n:Nat) (f:Int):Tk:=⟨7,f%n,0,0,0,0,0⟩
def firstS (p:Pn):List Tk:=if p.ks=[] then[] else p.fs.map (firstT p.ks.length)
structure PnAt (w:World) (p:Pn) (kv fv:Value):Prop where
 ks:Sl dlR w kv p.ks
 fs:Sl byR w fv p.fs
theorem PnAt.up {w w':World} {p:Pn} {kv fv:Value} (h:PnAt w p kv fv) (hb:Below w.heap.size w w'):PnAt w' p kv fv:=⟨h.ks.up hb,h.fs.up hb⟩
theorem Sl.atK {w:World} {A:Option Addr} {n c k:Nat} {xs:List (List De)} (h:Sl dlR w (.slice A n c) xs) (hk:k<xs.length):
 ∃b off A' c',A=some ⟨b,off,.none⟩∧b<w.heap.size∧w.cell? ⟨b,off+k,.none⟩=some (.slice A' xs[k].length c')∧Sl deR w (.slice A' xs[k].length c') xs[k]:=by
 obtain⟨b,off,cs,rfl,hb,⟨A',c',rfl,hx⟩,h2⟩:=h.at_ hk
 have h3:=h2 0 _ rfl
 simp only[dlR,Nat.mul_one,Nat.add_zero] at h3
 exact⟨b,off,A',c',rfl,hb,h3,hx⟩
theorem box3 (w:World) (a b c:Value) (t:TypeId):(w.alloc (.cells #[a,b,c] t)).cell? ⟨w.heap.size,0,none⟩=some a∧(w.alloc (.cells #[a,b,c] t)).cell? ⟨w.heap.size,1,none⟩=some b∧(w.alloc (.cells #[a,b,c] t)).cell? ⟨w.heap.size,2,none⟩=some c:=
 have h:=(Cells.new w [a,b,c] t).c
 ⟨h 0 _ rfl,h 1 _ rfl,h 2 _ rfl⟩
set_option maxHeartbeats 2000000 in
theorem far_any (p:Pn) (kv fv:Value) (w:World) (h:PnAt w p kv fv):
 Calls Try.prog 24 #[.agg #[kv,fv,.int .i64 p.most]] w fun e w'=>e=.returned (.bool (farS p))∧Below w.heap.size w w':=by
 obtain⟨kA,kc,rfl,k1,k2,_⟩:=h.ks.open
 obtain⟨fA,fc,rfl,f1,f2,_⟩:=h.fs.open
 have HH:=Lib.hid h
 clear h
 go_enter Try.func24,Try.ntmps24
 go_wp2_with fail
 refine at_world (fun X=>Below w.heap.size w X∧w.heap.size<X.heap.size∧X.cell? ⟨w.heap.size,0,none⟩=some (.slice kA p.ks.length kc)∧X.cell? ⟨w.heap.size,1,none⟩=some (.slice fA p.fs.length fc)) ⟨ba _ _,by simp,(box3 w _ _ _ _).1,(box3 w _ _ _ _).2.1⟩ fun x1 ⟨hb1,hz,c0,c1⟩=> ?_
 have HB:=Lib.hid hb1
 clear hb1
 go_loopw [3] (fun i wr=> ∃k:Nat,k≤p.ks.length∧i=.int .i64 k∧Hid (Below x1.heap.size x1 wr)∧Hid ((p.ks.take k).any (fun l=>decide (20<l.length))=false)) (fun i _=>p.ks.length-(intOf i).toNat)
 case atStart=>exact⟨0,by omega,rfl,Below.refl _ _,by show(List.take 0 p.ks).any _=false;simp⟩
 case round=>
  obtain⟨k,hk,rfl,hb,hany⟩:=hrel
  have d0:=cell_later hb.out c0
  have d1:=cell_later hb.out c1
  by_cases hlt:k<p.ks.length
  ·obtain⟨b,off,A',c',rfl,_,hc,_⟩:=((HH.out.up HB.out).up hb.out).ks.atK hlt
   have HX:=Lib.hid (show p.ks.take (k+1)=p.ks.take k++[p.ks[k]] from List.take_succ_eq_append_getElem hlt)
   have HM:=Lib.hid (List.getElem_mem hlt)
   generalize p.ks[k]=l at hc HX HM
   by_cases hq:20<l.length
   ·go_wp2_with fail
    go_ret
    refine⟨?_,HB.out.trans (hb.out.mono HB.out.size)⟩
    have:p.ks.any (fun l=>decide (20<l.length))=true:=List.any_eq_true.2 ⟨l,HM.out,by simpa using hq⟩
    simp[farS,this]
   ·go_wp2_with fail
    go_roundw
    case rel=>exact⟨k+1,by omega,by go_num,hb,by show(List.take _ _).any _=false;rw[HX.out,List.any_append,hany.out];simp;omega⟩
    case measure=>simp[intOf];omega
  ·have hke:k=p.ks.length:=by omega
   have HK:=Lib.hid hke
   clear hke
   have h1:=hany.out
   rw[HK.out,List.take_length] at h1
   have H1:=Lib.hid h1
   clear h1
   by_cases h10:10<p.ks.length
   ·go_wp2_with fail
    go_ret
    exact⟨by simp[farS,H1.out,h10],HB.out.trans (hb.out.mono HB.out.size)⟩
   ·have h10':¬((10:Int)<(p.ks.length:Int)):=by omega
    have e1:decide ((250:Int)<(p.fs.length:Int))=decide (250<p.fs.length):=decide_eq_decide.2 (by omega)
    have E1:=Lib.hid e1
    clear e1
    go_wp2_with fail
    go_ret
    exact⟨by simp[farS,H1.out,h10,h10',E1.out],HB.out.trans (hb.out.mono HB.out.size)⟩
set_option maxHeartbeats 1000000 in
theorem first_any (p:Pn) (kv fv:Value) (w:World) (h:PnAt w p kv fv) (hks:p.ks.length≤1000) (hfs:p.fs.length≤1000):
 Calls Try.prog 23 #[.agg #[kv,fv,.int .i64 p.most]] w fun e w'=> ∃v,e=.returned v∧Own tkR 35 w.heap.size w' v (firstS p)∧Below w.heap.size w w':=by
 obtain⟨kA,kc,rfl,k1,k2,_⟩:=h.ks.open
 obtain⟨fA,fc,rfl,f1,f2,_⟩:=h.fs.open
 have HH:=Lib.hid h
 clear h
 go_enter Try.func23,Try.ntmps23
 go_wp2_with fail
 refine at_world (fun X=>Below w.heap.size w X∧w.heap.size<X.heap.size∧X.cell? ⟨w.heap.size,0,none⟩=some (.slice kA p.ks.length kc)∧X.cell? ⟨w.heap.size,1,none⟩=some (.slice fA p.fs.length fc)) ⟨ba _ _,by simp,(box3 w _ _ _ _).1,(box3 w _ _ _ _).2.1⟩ fun x1 ⟨hb1,hz,c0,c1⟩=> ?_
 have HB:=Lib.hid hb1
 clear hb1
 go_loopw [3,4] (fun v i wr=> ∃k:Nat,k≤p.fs.length∧(p.ks=[]→k=0)∧i=.int .i64 k∧Hid (Below x1.heap.size x1 wr)∧Hid (Own tkR 35 x1.heap.size wr v ((p.fs.take k).map (firstT p.ks.length)))) (fun _ i _=>p.fs.length-(intOf i).toNat)
 case atStart=>exact⟨0,by omega,fun _=>rfl,rfl,Below.refl _ _,Own.nil _ _ _ _⟩
 case round=>
  obtain⟨k,hk,hk0,rfl,hb,hown⟩:=hrel
  have HK0:=Lib.hid hk0
  clear hk0
  have d0:=cell_later hb.out c0
  have d1:=cell_later hb.out c1
  by_cases hn:p.ks.length=0
  ·have HN:=Lib.hid hn
   rw[hn] at d0⊢
   clear hn
   by_cases hlt:k<p.fs.length
   ·go_wp2_with fail
    go_ret
    have hnil:=List.eq_nil_of_length_eq_zero HN.out
    have h1:=hown.out
    rw[HK0.out hnil] at h1
    exact⟨_,rfl,by simpa[firstS,hnil] using h1.mono (Nat.le_of_lt hz),HB.out.trans (hb.out.mono HB.out.size)⟩
   ·go_wp2_with fail
    go_ret
    have hnil:=List.eq_nil_of_length_eq_zero HN.out
    have h1:=hown.out
    rw[HK0.out hnil] at h1
    exact⟨_,rfl,by simpa[firstS,hnil] using h1.mono (Nat.le_of_lt hz),HB.out.trans (hb.out.mono HB.out.size)⟩
  ·have hn0:0<p.ks.length:=by omega
   by_cases hlt:k<p.fs.length
   ·obtain⟨b,off,cs,rfl,hbl,⟨rfl,q0,q1⟩,h2⟩:=HH.out.fs.at_ hlt
    have h3:=h2 0 _ rfl
    simp only[byR,Nat.mul_one,Nat.add_zero] at h3
    have h3:=cell_later hb.out (cell_later HB.out h3)
    clear h2
    have HX:=Lib.hid (show p.fs.take (k+1)=p.fs.take k++[p.fs[k]] from List.take_succ_eq_append_getElem hlt)
    generalize p.fs[k]=f at q0 q1 h3 HX
    have hln:(List.map (firstT p.ks.length) (List.take k p.fs)).length=k:=by simp;omega
    obtain⟨oA,oc,rfl,_⟩:=hown.out.form
    rw[hln] at hown⊢
    go_upto_region 5 with fail
    refine wp_region_T (fun _=>false) (fun X=>Below x1.heap.size wr X) (fun _=>True) (by kernel_rfl) ?_
    have HS:Below x1.heap.size wr wr.drew:=⟨rfl,rfl,rfl,Nat.le_refl _,fun _ _=>rfl⟩
    have hzz:=hb.out.size
    refine wpAnyT_take (i:=0) (v:=.slice oA k oc) rfl (by decide+kernel) (by decide+kernel) (by decide+kernel) rfl (fun _ _ _ h=>h) (.inl ⟨rfl,fun W hS=>by go_simp⟩) HS (fun _=>trivial) ?_
    refine wpAnyT_take (i:=1) (v:=.pointer (some ⟨w.heap.size,1,none⟩)) rfl (by decide+kernel) (by decide+kernel) (by decide+kernel) rfl (fun _ _ _ h=>h) (.inl ⟨rfl,fun W hS=>by go_simp⟩) HS (fun _=>trivial) ?_
    refine wpAnyT_take (i:=2) (v:=.slice (some ⟨b,off,none⟩) p.fs.length fc) rfl (by decide+kernel) (by decide+kernel) (by decide+kernel) rfl (fun _ _ _ h=>h) (.inl ⟨rfl,fun W hS=>by have hc0:=(hS.cell (by show w.heap.size<_;omega)).trans d1;go_simp⟩) HS (fun _=>trivial) ?_
    refine wpAnyT_take (i:=3) (v:=.int .i64 (k:Int)) rfl (by decide+kernel) (by decide+kernel) (by decide+kernel) rfl (fun _ _ _ h=>h) (.inl ⟨rfl,fun W hS=>by go_simp⟩) HS (fun _=>trivial) ?_
    refine wpAnyT_take (i:=4) (v:=.pointer (some ⟨b,off+k,none⟩)) rfl (by decide+kernel) (by decide+kernel) (by decide+kernel) rfl (fun _ _ _ h=>h) (.inl ⟨rfl,fun W hS=>by go_simp⟩) HS (fun _=>trivial) ?_
    refine wpAnyT_take (i:=5) (v:=.int .u8 f) rfl (by decide+kernel) (by decide+kernel) (by decide+kernel) rfl (fun _ _ _ h=>h) (.inl ⟨rfl,fun W hS=>by have hc0:=(hS.cell (by show b<_;omega)).trans h3;go_simp⟩) HS (fun _=>trivial) ?_
    refine wpAnyT_take (i:=6) (v:=.int .i64 f) rfl (by decide+kernel) (by decide+kernel) (by decide+kernel) rfl (fun _ _ _ h=>h) (.inl ⟨rfl,fun W hS=>by go_simp;exact IntWalk.i64_in _ (by omega)⟩) HS (fun _=>trivial) ?_
    refine wpAnyT_take (i:=7) (v:=.pointer (some ⟨w.heap.size,0,none⟩)) rfl (by decide+kernel) (by decide+kernel) (by decide+kernel) rfl (fun _ _ _ h=>h) (.inl ⟨rfl,fun W hS=>by go_simp⟩) HS (fun _=>trivial) ?_
    refine wpAnyT_take (i:=8) (v:=.slice kA p.ks.length kc) rfl (by decide+kernel) (by decide+kernel) (by decide+kernel) rfl (fun _ _ _ h=>h) (.inl ⟨rfl,fun W hS=>by have hc0:=(hS.cell (by show w.heap.size<_;omega)).trans d0;go_simp⟩) HS (fun _=>trivial) ?_
    refine wpAnyT_take (i:=9) (v:=.int .i64 (p.ks.length:Int)) rfl (by decide+kernel) (by decide+kernel) (by decide+kernel) rfl (fun _ _ _ h=>h) (.inl ⟨rfl,fun W hS=>by go_simp⟩) HS (fun _=>trivial) ?_
    refine wpAnyT_take (i:=10) (v:=.int .i64 (f%(p.ks.length:Int))) rfl (by decide+kernel) (by decide+kernel) (by decide+kernel) rfl (fun _ _ _ h=>h) (.inl ⟨rfl,fun W hS=>by go_simp;exact IntWalk.rem_in _ _ q0⟩) HS (fun _=>trivial) ?_
    refine wpAnyT_take (i:=11) (v:=.agg #[.int .i64 7,.int .i64 (f%(p.ks.length:Int)),.int .i64 0,.int .i64 0,.int .i64 0,.int .i64 0,.int .i64 0]) rfl (by decide+kernel) (by decide+kernel) (by decide+kernel) rfl (fun _ _ _ h=>h) (.inl ⟨rfl,fun W hS=>by go_simp⟩) HS (fun _=>trivial) ?_
    refine wpAnyT_all (rs:=[12]) (by decide+kernel) (by simp) fun j hj=> ?_
    obtain rfl:j=12:=by simpa using hj
    clear hj
    refine heldOpT rfl fun K hK=> ?_
    go_wp2_with fail
    have OL:Own tkR 35 wr.heap.size (wr.alloc (.cells #[.int .i64 7,.int .i64 (f%(p.ks.length:Int)),.int .i64 0,.int .i64 0,.int .i64 0,.int .i64 0,.int .i64 0] 35)) (.slice (some ⟨wr.heap.size,0,none⟩) 1 1) [firstT p.ks.length f]:=Own.lit (R:=tkR) (cells:=(firstT p.ks.length f).cells) rfl (Nat.le_refl _) (Rep.many_one (R:=tkR) (x:=firstT p.ks.length f) rfl) rfl (by decide)
    have B0:Below wr.heap.size wr (wr.alloc (.cells #[.int .i64 7,.int .i64 (f%(p.ks.length:Int)),.int .i64 0,.int .i64 0,.int .i64 0,.int .i64 0,.int .i64 0] 35)).drew:=(ba wr _).trans ⟨rfl,rfl,rfl,Nat.le_refl _,fun _ _=>rfl⟩
    refine at_world (fun y=>Below x1.heap.size wr y∧Below wr.heap.size wr y∧Own tkR 35 wr.heap.size y (.slice (some ⟨wr.heap.size,0,none⟩) 1 1) [firstT p.ks.length f]) ⟨B0.mono hb.out.size,B0,OL.up ⟨rfl,rfl,rfl,Nat.le_refl _,fun _ _=>rfl⟩⟩ fun y ⟨by1,by2,oy⟩=> ?_
    refine hK.out _ _ ⟨by1,fun _=>trivial, ?_⟩
    clear hK K OL HS
    refine wpAnyT_all (rs:=[13]) (by decide+kernel) (by simp) fun j hj=> ?_
    obtain rfl:j=13:=by simpa using hj
    clear hj
    refine heldOpT rfl fun K hK=> ?_
    have OY:=Lib.hid oy
    have HO:=Lib.hid (hown.out.up by2)
    clear oy
    refine wpList_append_sl _ rfl (.tmp 18) (.tmp 30) 69 rfl tkR x1.heap.size 35 _ 56 Try.underlying69 infoK rfl (by decide) _ (List.map (firstT p.ks.length) (List.take k p.fs)) rfl HO.out _ [firstT p.ks.length f] rfl OY.out.sl (by simp;omega) (by decide) (by have:=by1.size;omega) (fun w' _ cs y h=>tkR_flat _ _ _ _ h) ?_
    intro v1 w2 hown1 hg1 hat1
    have B2:Below x1.heap.size wr w2:=by1.grown hg1 (by have:=by1.size;omega) fun j hj=>(HO.out.lt j hj).1
    have hown1:=Lib.hid hown1
    clear hg1 hat1 HO OY
    go_wp2_with fail
    refine hK.out _ _ ⟨B2,fun _=>trivial, ?_⟩
    clear hK K
    refine wpAnyT_all (rs:=[14]) (by decide+kernel) (by simp) fun j hj=> ?_
    obtain rfl:j=14:=by simpa using hj
    clear hj
    refine heldOpT rfl fun K hK=> ?_
    go_wp2_with fail
    refine hK.out _ _ ⟨B2,fun _=>trivial, ?_⟩
    clear hK K
    refine wpAnyT_done (by decide+kernel) ?_ _
    go_wp2_with fail
    go_roundw
    case rel=>exact⟨k+1,by omega,fun e=>by rw[e] at hn0;simp at hn0,by go_num,hb.out.trans B2,by
     have h1:=hown1.out
     show Own _ _ _ _ _ _
     rw[HX.out,List.map_append]
     exact h1⟩
    case measure=>simp[intOf];omega
   ·have hke:k=p.fs.length:=by omega
    have HK:=Lib.hid hke
    clear hke
    go_wp2_with fail
    go_ret
    have hnil:p.ks≠[]:=fun e=>by rw[e] at hn0;simp at hn0
    have h1:=hown.out
    rw[HK.out,List.take_length] at h1
    exact⟨_,rfl,by rw[firstS,if_neg hnil];exact h1.mono (Nat.le_of_lt hz),HB.out.trans (hb.out.mono HB.out.size)⟩
end Go.Proofs.Ytlngbdggehghgaa

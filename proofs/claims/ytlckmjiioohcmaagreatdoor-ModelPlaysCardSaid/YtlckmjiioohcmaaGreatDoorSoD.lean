/-
  Walks of slices' swapRangeCmpFunc, rotateCmpFunc at ints. Conditions: as each theorem says.
  Walk of slices' insertionSortCmpFunc at ints. Conditions: as the theorem says.
  Walk of slices' symMergeCmpFunc at ints: where the first half is one number. Conditions: as the theorem says.
  Walk of slices' symMergeCmpFunc at ints: where the second half is one number. Conditions: as the theorem says.
-/
import Derived.Test.YtlckmjiioohcmaaGreatDoorLib
import Derived.Test.YtlckmjiioohcmaaGreatDoorVnI
import Derived.BigRegion
import Derived.Deep.CutRange
namespace Go.Proofs.YtlckmjiioohcmaaGreatDoor
open Go.RowKit
theorem swap_mid (L M R:List Int) (x y:Int):((L++x::(M++y::R)).set L.length y).set (L.length+1+M.length) x=L++y::(M++x::R):=by
 rw[List.set_append_right _ _ (Nat.le_refl _),Nat.sub_self,List.set_cons_zero,List.set_append_right _ _ (by omega),show L.length+1+M.length-L.length=M.length+1 by omega,List.set_cons_succ,List.set_append_right _ _ (Nat.le_refl _),Nat.sub_self,List.set_cons_zero]
theorem Own.two {e B g n cap:Nat} {w:World} {L M R:List Int} {x y:Int} (h:Own intR e B w (.slice (some ⟨g,0,none⟩) n cap) (L++x::(M++y::R))):
 w.cell? ⟨g,L.length,none⟩=some (.int .i64 x)∧w.cell? ⟨g,L.length+1+M.length,none⟩=some (.int .i64 y)∧w.frozen? ⟨g,L.length,none⟩=false∧w.frozen? ⟨g,L.length+1+M.length,none⟩=false∧g<w.heap.size∧
 Own intR e B ((w.setCell ⟨g,L.length,none⟩ (.int .i64 y)).setCell ⟨g,L.length+1+M.length,none⟩ (.int .i64 x)) (.slice (some ⟨g,0,none⟩) n cap) (L++y::(M++x::R))∧
 w.grownBy ((w.setCell ⟨g,L.length,none⟩ (.int .i64 y)).setCell ⟨g,L.length+1+M.length,none⟩ (.int .i64 x)) (some g):=by
 have h1:L.length<(L++x::(M++y::R)).length:=by simp
 have h2:L.length+1+M.length<(L++x::(M++y::R)).length:=by simp;omega
 obtain⟨g1,he,_,hlt,c1,f1,b1⟩:=h.atI h1
 injection he with he
 injection he with he
 subst he
 obtain⟨g2,he,_,_,c2,f2,b2⟩:=h.atI h2
 injection he with he
 injection he with he
 subst he
 have e1:(L++x::(M++y::R))[L.length]=x:=by simp
 have e2:(L++x::(M++y::R))[L.length+1+M.length]=y:=by
  rw[List.getElem_append_right (by omega)]
  simp only[show L.length+1+M.length-L.length=M.length+1 by omega,List.getElem_cons_succ]
  rw[List.getElem_append_right (Nat.le_refl _)]
  simp
 simp only[e1] at c1 b1
 simp only[e2] at c2 b2
 obtain⟨o1,g3⟩:=h.putI h1 b2
 obtain⟨o2,g4⟩:=o1.putI (k:=L.length+1+M.length) (by simpa using h2) b1
 rw[swap_mid] at o2
 exact⟨c1,c2,f1,f2,hlt,o2,grownBy_trans g3 g4⟩
set_option maxHeartbeats 4000000 in
theorem swapRange_any {B g cap n a b m:Nat} {P X M Y S:List Int} {w:World} (f:Value) (ho:Own intR 3 B w (.slice (some ⟨g,0,none⟩) n cap) (P++X++M++Y++S)) (hXY:X.length=Y.length) (hn:(P++X++M++Y++S).length≤1000000)
 (en:n=(P++X++M++Y++S).length) (ea:a=P.length) (eb:b=P.length+X.length+M.length) (em:m=X.length):
 Calls Tryz.prog 213 #[.slice (some ⟨g,0,none⟩) n cap,.int .i64 (a:Int),.int .i64 (b:Int),.int .i64 (m:Int),f] w fun e w'=>
  e=.returned (.tuple #[])∧Own intR 3 B w' (.slice (some ⟨g,0,none⟩) n cap) (P++Y++M++X++S)∧w.grownBy w' (some g):=by
 have HO:=Lib.hid ho
 have HEN:=Lib.hid en
 have hnb:n≤1000000:=by omega
 have hsum:a+m≤b∧b+m≤n:=by
  rw[en,ea,eb,em]
  simp only[List.length_append]
  omega
 clear ho hn en
 go_enter Tryz.func213,Tryz.ntmps213
 go_wp2
 go_loopw [10] (fun i wr=> ∃X1 X2 Y1 Y2:List Int,Hid (X=X1++X2∧Y=Y1++Y2∧X1.length=Y1.length)∧i=.int .i64 (X1.length:Int)∧Hid (Own intR 3 B wr (.slice (some ⟨g,0,none⟩) n cap) (P++Y1++X2++M++X1++Y2++S)∧w.grownBy wr (some g))) (fun i _=>m-(intOf i).toNat)
 case atStart=>exact⟨[],X,[],Y,⟨by simp,by simp,rfl⟩,rfl,by simpa using HO.out,World.grownBy.refl _ _⟩
 case round=>
  obtain⟨X1,X2,Y1,Y2,hx,rfl,hr⟩:=hrel
  have HR:=Lib.hid hr
  obtain⟨k,hk⟩:∃k,k=X1.length:=⟨_,rfl⟩
  rw[←hk]
  by_cases hlt:k<m
  ·obtain⟨hx1,hx2,hx3⟩:=hx
   obtain⟨x,X2',rfl⟩:∃x X2',X2=x::X2':=by
    cases X2 with
    |nil=>exfalso;rw[hx1] at em;simp at em;omega
    |cons x X2'=>exact⟨x,X2',rfl⟩
   obtain⟨y,Y2',rfl⟩:∃y Y2',Y2=y::Y2':=by
    cases Y2 with
    |nil=>exfalso;rw[hx1,hx2] at hXY;simp at hXY;omega
    |cons y Y2'=>exact⟨y,Y2',rfl⟩
   have e1:P++Y1++x::X2'++M++X1++y::Y2'++S=(P++Y1)++x::((X2'++M++X1)++y::(Y2'++S)):=by simp
   have e2:(P++Y1)++y::((X2'++M++X1)++x::(Y2'++S))=P++(Y1++[y])++X2'++M++(X1++[x])++Y2'++S:=by simp
   have hr1:=hr.1
   rw[e1] at hr1
   have hX:X.length=k+1+X2'.length:=by rw[hx1,hk];simp;omega
   obtain⟨c1,c2,f1,f2,zg,o2,g2⟩:=hr1.two
   have l1:(P++Y1).length=a+k:=by rw[ea,hk,hx3];simp
   have l2:a+k+1+(X2'++M++X1).length=b+k:=by rw[eb,hX,ea,hk];simp;omega
   rw[l1,l2] at o2 g2 c2 f2
   rw[l1] at c1 f1
   rw[e2] at o2
   have HW:=Lib.hid (And.intro o2 (grownBy_trans HR.out.2 g2))
   have n1:IntKind.i64.wrap ((a:Int)+(k:Int))=(a:Int)+(k:Int):=IntWalk.i64_in _ (by omega)
   have n2:IntKind.i64.wrap ((b:Int)+(k:Int))=(b:Int)+(k:Int):=IntWalk.i64_in _ (by omega)
   have n3:((a:Int)+(k:Int)).toNat=a+k:=by omega
   have n4:((b:Int)+(k:Int)).toNat=b+k:=by omega
   have n5:(0:Int)≤(a:Int)+(k:Int):=by omega
   have n6:(0:Int)≤(b:Int)+(k:Int):=by omega
   have n7:(a:Int)+(k:Int)<(n:Int):=by omega
   have n8:(b:Int)+(k:Int)<(n:Int):=by omega
   have n9:(k:Int)<(m:Int):=by omega
   have ne:a+k≠b+k:=by omega
   have HXX:=Lib.hid (And.intro hx1 (And.intro hx2 hx3))
   have HK:=Lib.hid hk
   clear hr hr1 e1 e2 o2 g2 hx1 hx2 hx3 hX l1 l2 hXY ea eb em HO HEN hk
   go_wp2_with fail
   go_region
   clear c1 c2 f1 f2
   go_wp2_with fail
   go_roundw
   case rel=>
    obtain⟨hx1,hx2,hx3⟩:=HXX.out
    refine⟨X1++[x],X2',Y1++[y],Y2',⟨by rw[hx1];simp,by rw[hx2];simp,by simp[hx3]⟩, ?_,HW.out.1.up (bdd (Below.refl _ _)),grownBy_trans HW.out.2 ⟨rfl,rfl,rfl,Nat.le_refl _,fun _ _ _=>rfl⟩⟩
    have hk:=HK.out
    rw[List.length_append,←hk]
    go_num
   case measure=>simp[intOf];omega
  ·obtain⟨hx1,hx2,hx3⟩:=hx
   obtain rfl:X2=[]:=by
    have:X.length=X1.length+X2.length:=by rw[hx1];simp
    exact List.eq_nil_of_length_eq_zero (by omega)
   obtain rfl:Y2=[]:=by
    have:Y.length=Y1.length+Y2.length:=by rw[hx2];simp
    have:X.length=X1.length:=by rw[hx1];simp
    exact List.eq_nil_of_length_eq_zero (by omega)
   rw[List.append_nil] at hx1 hx2
   subst hx1 hx2
   have hkm:¬((k:Int)<(m:Int)):=by omega
   go_wp2_with fail
   refine bodyPost_end (results_none rfl _ _ _) rfl ?_
   exact⟨rfl,by simpa using HR.out.1,HR.out.2⟩
set_option maxHeartbeats 4000000 in
theorem rotate_any {B g cap n a m b:Nat} {P L R S:List Int} {w:World} (f:Value) (ho:Own intR 3 B w (.slice (some ⟨g,0,none⟩) n cap) (P++L++R++S)) (hn:(P++L++R++S).length≤1000000) (en:n=(P++L++R++S).length)
 (ea:a=P.length) (em:m=P.length+L.length) (eb:b=P.length+L.length+R.length) (hL:L≠[]) (hR:R≠[]):
 Calls Tryz.prog 208 #[.slice (some ⟨g,0,none⟩) n cap,.int .i64 (a:Int),.int .i64 (m:Int),.int .i64 (b:Int),f] w fun e w'=>
  e=.returned (.tuple #[])∧Own intR 3 B w' (.slice (some ⟨g,0,none⟩) n cap) (P++R++L++S)∧w.grownBy w' (some g):=by
 have hl0:0<L.length:=List.length_pos_iff.2 hL
 have hr0:0<R.length:=List.length_pos_iff.2 hR
 have hnb:n≤1000000:=by omega
 have hbn:b≤n:=by rw[eb,en];simp only[List.length_append];omega
 have HO:=Lib.hid ho
 have HEN:=Lib.hid (And.intro en (And.intro em hn))
 have hma:IntKind.i64.wrap ((m:Int)-(a:Int))=(m:Int)-(a:Int):=IntWalk.i64_in _ (by omega)
 have hbm:IntKind.i64.wrap ((b:Int)-(m:Int))=(b:Int)-(m:Int):=IntWalk.i64_in _ (by omega)
 have hi0:(m:Int)-(a:Int)=(L.length:Int):=by omega
 have hj0:(b:Int)-(m:Int)=(R.length:Int):=by omega
 clear ho hn en hL hR ea em eb
 go_enter Tryz.func208,Tryz.ntmps208
 go_wp2
 go_loopw [10,11] (fun i j wr=> ∃PP X Y SS:List Int,i=.int .i64 (X.length:Int)∧j=.int .i64 (Y.length:Int)∧Hid (0<X.length∧0<Y.length∧PP.length+X.length=m∧PP++Y++X++SS=P++R++L++S∧Own intR 3 B wr (.slice (some ⟨g,0,none⟩) n cap) (PP++X++Y++SS)∧w.grownBy wr (some g))) (fun i j _=>(intOf i).toNat+(intOf j).toNat)
 case atStart=>
  exact⟨P,L,R,S,rfl,rfl,hl0,hr0,HEN.out.2.1.symm,rfl,HO.out,World.grownBy.refl _ _⟩
 case round=>
  obtain⟨PP,X,Y,SS,rfl,rfl,hr⟩:=hrel
  have HR:=Lib.hid hr
  obtain⟨hx0,hy0,hpm,hfin,hown,hgr⟩:=hr
  have hlen:(PP++X++Y++SS).length=n:=by
   have h1:=congrArg List.length hfin
   have h2:=HEN.out.1
   simp only[List.length_append] at h1 h2⊢
   omega
  have hlen2:PP.length+X.length+Y.length≤n:=by
   rw[←hlen]
   simp only[List.length_append]
   omega
  obtain⟨i,hi⟩:∃i,i=X.length:=⟨_,rfl⟩
  obtain⟨j,hj⟩:∃j,j=Y.length:=⟨_,rfl⟩
  have HIJ:=Lib.hid (And.intro hi hj)
  have HLEN:=Lib.hid hlen
  rw[←hi,←hj]
  have n1:IntKind.i64.wrap ((m:Int)-(i:Int))=((PP.length:Nat):Int):=by rw[IntWalk.i64_in _ (by omega)];omega
  have n2:IntKind.i64.wrap ((m:Int)+(j:Int))=(m:Int)+(j:Int):=IntWalk.i64_in _ (by omega)
  rcases Nat.lt_trichotomy i j with hij|hij|hij
  ·have t1:((i:Int) !=(j:Int))=true:=by simp;omega
   have t2:decide ((j:Int)<(i:Int))=false:=by simp;omega
   have n3:IntKind.i64.wrap ((m:Int)+(j:Int)-(i:Int))=((PP.length+X.length+(j-i):Nat):Int):=by rw[IntWalk.i64_in _ (by omega)];omega
   have n4:IntKind.i64.wrap ((j:Int)-(i:Int))=((j-i:Nat):Int):=by rw[IntWalk.i64_in _ (by omega)];omega
   have eY:Y=Y.take (j-i)++Y.drop (j-i):=(List.take_append_drop _ _).symm
   have hown':Own intR 3 B wr (.slice (some ⟨g,0,none⟩) n cap) (PP++X++Y.take (j-i)++Y.drop (j-i)++SS):=by
    rw[List.append_assoc (PP++X),List.take_append_drop]
    exact hown
   have C:=Lib.hid (swapRange_any f hown' (by rw[List.length_drop];omega) (by rw[List.append_assoc (PP++X),List.take_append_drop,hlen];exact hnb) (a:=PP.length) (b:=PP.length+X.length+(j-i)) (m:=i)
    (by rw[List.append_assoc (PP++X),List.take_append_drop,hlen]) rfl (by rw[List.length_take];omega) hi)
   clear hx0 hy0 hown hown' hgr hfin hlen hpm eY hi hj
   go_wp2_with fail
   refine C.out.mono ?_
   rintro e w2 ⟨rfl,ho2,hg2⟩
   have HW:=Lib.hid (And.intro ho2 hg2)
   clear ho2 hg2 C
   go_wp2_with fail
   go_roundw
   case rel=>
    obtain⟨hx0,hy0,hpm,hfin,hown,hgr⟩:=HR.out
    obtain⟨hi,hj⟩:=HIJ.out
    refine⟨PP,Y.drop (j-i),Y.take (j-i),X++SS, ?_, ?_, ?_, ?_, ?_, ?_, ?_,grownBy_trans hgr HW.out.2⟩
    ·rw[List.length_drop];congr 1;omega
    ·rw[List.length_take];congr 1;omega
    ·rw[List.length_drop];omega
    ·rw[List.length_take];omega
    ·rw[List.length_drop];omega
    ·rw[←hfin];simp only[List.append_assoc];rw[←List.append_assoc (Y.take (j-i)),List.take_append_drop]
    ·have h:=HW.out.1
     simpa only[List.append_assoc] using h
   case measure=>
    have q0:=HR.out.1
    have q1:=HR.out.2.1
    obtain⟨hi,hj⟩:=HIJ.out
    simp[intOf]
    omega
  ·subst hij
   have t1:((i:Int) !=(i:Int))=false:=by simp
   have hown':Own intR 3 B wr (.slice (some ⟨g,0,none⟩) n cap) (PP++X++[]++Y++SS):=by rw[List.append_nil];exact hown
   have C:=Lib.hid (swapRange_any f hown' (by omega) (by rw[List.append_nil,hlen];exact hnb) (a:=PP.length) (b:=m) (m:=i) (by rw[List.append_nil,hlen]) rfl (by simp;omega) hi)
   clear hx0 hy0 hown hown' hgr hfin hlen hi hj hpm
   go_wp2_with fail
   refine C.out.mono ?_
   rintro e w2 ⟨rfl,ho2,hg2⟩
   have HW:=Lib.hid (And.intro ho2 hg2)
   clear ho2 hg2 C
   go_wp2_with fail
   have h:=HW.out.1
   have hfin:=HR.out.2.2.2.1
   rw[List.append_nil,hfin] at h
   have hg:=grownBy_trans HR.out.2.2.2.2.2 HW.out.2
   refine bodyPost_end (results_none rfl _ _ _) rfl ?_
   exact⟨by first|trivial|rfl,h,hg⟩
  ·have t1:((i:Int) !=(j:Int))=true:=by simp;omega
   have t2:decide ((j:Int)<(i:Int))=true:=by simp;omega
   have n4:IntKind.i64.wrap ((i:Int)-(j:Int))=((i-j:Nat):Int):=by rw[IntWalk.i64_in _ (by omega)];omega
   have hown':Own intR 3 B wr (.slice (some ⟨g,0,none⟩) n cap) (PP++X.take j++X.drop j++Y++SS):=by
    rw[List.append_assoc PP,List.take_append_drop]
    exact hown
   have C:=Lib.hid (swapRange_any f hown' (by rw[List.length_take];omega) (by rw[List.append_assoc PP,List.take_append_drop,hlen];exact hnb) (a:=PP.length) (b:=m) (m:=j)
    (by rw[List.append_assoc PP,List.take_append_drop,hlen]) rfl (by rw[List.length_take,List.length_drop];omega) (by rw[List.length_take];omega))
   clear hx0 hy0 hown hown' hgr hfin hlen hpm hi hj
   go_wp2_with fail
   refine C.out.mono ?_
   rintro e w2 ⟨rfl,ho2,hg2⟩
   have HW:=Lib.hid (And.intro ho2 hg2)
   clear ho2 hg2 C
   go_wp2_with fail
   go_roundw
   case rel=>
    obtain⟨hx0,hy0,hpm,hfin,hown,hgr⟩:=HR.out
    obtain⟨hi,hj⟩:=HIJ.out
    refine⟨PP++Y,X.drop j,X.take j,SS, ?_, ?_, ?_, ?_, ?_, ?_, ?_,grownBy_trans hgr HW.out.2⟩
    ·rw[List.length_drop];congr 1;omega
    ·rw[List.length_take];congr 1;omega
    ·rw[List.length_drop];omega
    ·rw[List.length_take];omega
    ·rw[List.length_drop,List.length_append];omega
    ·rw[←hfin];simp only[List.append_assoc];rw[←List.append_assoc (X.take j),List.take_append_drop]
    ·have h:=HW.out.1
     simpa only[List.append_assoc] using h
   case measure=>
    have q0:=HR.out.1
    have q1:=HR.out.2.1
    obtain⟨hi,hj⟩:=HIJ.out
    simp[intOf]
    omega
end Go.Proofs.YtlckmjiioohcmaaGreatDoor
namespace Go.Proofs.YtlckmjiioohcmaaGreatDoor
open Go.RowKit
theorem Own.two_rev {e B g n cap:Nat} {w:World} {L M R:List Int} {x y:Int} (h:Own intR e B w (.slice (some ⟨g,0,none⟩) n cap) (L++x::(M++y::R))):
 Own intR e B ((w.setCell ⟨g,L.length+1+M.length,none⟩ (.int .i64 x)).setCell ⟨g,L.length,none⟩ (.int .i64 y)) (.slice (some ⟨g,0,none⟩) n cap) (L++y::(M++x::R))∧
 w.grownBy ((w.setCell ⟨g,L.length+1+M.length,none⟩ (.int .i64 x)).setCell ⟨g,L.length,none⟩ (.int .i64 y)) (some g):=by
 have h1:L.length<(L++x::(M++y::R)).length:=by simp
 have h2:L.length+1+M.length<(L++x::(M++y::R)).length:=by simp;omega
 obtain⟨_,_,_,_,_,_,b1⟩:=h.atI h1
 obtain⟨_,_,_,_,_,_,b2⟩:=h.atI h2
 have e1:(L++x::(M++y::R))[L.length]=x:=by simp
 have e2:(L++x::(M++y::R))[L.length+1+M.length]=y:=by
  rw[List.getElem_append_right (by omega)]
  simp only[show L.length+1+M.length-L.length=M.length+1 by omega,List.getElem_cons_succ]
  rw[List.getElem_append_right (Nat.le_refl _)]
  simp
 rw[e1] at b1
 rw[e2] at b2
 obtain⟨o1,g3⟩:=h.putI h2 b1
 obtain⟨o2,g4⟩:=o1.putI (k:=L.length) (by simp) b2
 rw[List.set_comm _ _ (by omega),swap_mid] at o2
 exact⟨o2,grownBy_trans g3 g4⟩
def cmpI (a b:Int):Int:=if a<b then-1 else if b<a then 1 else 0
theorem cmpI_neg (a b:Int):decide (cmpI a b<0)=decide (a<b):=by
 unfold cmpI
 split
 ·simp[*]
 ·split<;>simp[*]
def CmpOk (w:World) (g:Nat) (fid:FuncId) (lb:Array Value) (key:Int→Int) (xs:List Int):Prop:=
 (∀args w,(callFunc fid args).run Tryz.prog w=.ok (.enter fid args) w)∧
 ∀(W:World) (x y:Int),w.grownBy W (some g)→x∈xs→y∈xs→Calls Tryz.prog fid (#[.int .i64 x,.int .i64 y]++lb) W fun e w'=>e=.returned (.int .i64 (cmpI (key x) (key y)))∧Below W.heap.size W w'
theorem CmpOk.later {w w':World} {g:Nat} {fid:FuncId} {lb:Array Value} {key:Int→Int} {xs:List Int} (h:CmpOk w g fid lb key xs) (hg:w.grownBy w' (some g)):CmpOk w' g fid lb key xs:=
 ⟨h.1,fun W x y hW hx hy=>h.2 W x y (grownBy_trans hg hW) hx hy⟩
theorem CmpOk.sub {w:World} {g:Nat} {fid:FuncId} {lb:Array Value} {key:Int→Int} {xs ys:List Int} (h:CmpOk w g fid lb key xs) (hs:∀y∈ys,y∈xs):CmpOk w g fid lb key ys:=
 ⟨h.1,fun W x y hW hx hy=>h.2 W x y hW (hs x hx) (hs y hy)⟩
theorem below_grownBy {w w':World} (h:Below w.heap.size w w') (row:Option Nat):w.grownBy w' row:=⟨h.os,h.tape,h.output,h.size,fun i hi _=>h.block i hi⟩
theorem asc_put {key:Int→Int} {A B:List Int} {x:Int} (h:Asc key (A++B)) (hB:∀y∈B,key x<key y) (hA:∀y∈A,y<x) (hlast:∀A' y,A=A'++[y]→¬key x<key y):Asc key (A++x::B):=by
 obtain⟨h1,h2,h3⟩:=List.pairwise_append.1 h
 refine asc_append h1 (List.pairwise_cons.2 ⟨fun y hy=> .inl (hB y hy),h2⟩) fun y hy z hz=> ?_
 rcases List.mem_cons.1 hz with rfl|hz
 ·obtain⟨A',y0,rfl⟩:∃A' y0,A=A'++[y0]:=⟨A.dropLast,A.getLast (List.ne_nil_of_mem hy),(List.dropLast_concat_getLast _).symm⟩
  have l0:=hlast A' y0 rfl
  have l1:=hA y0 (by simp)
  have l2:lexlt key y0 z:=by unfold lexlt;omega
  rcases List.mem_append.1 hy with hy|hy
  ·exact lexlt_trans ((List.pairwise_append.1 h1).2.2 y hy y0 (by simp)) l2
  ·have:y=y0:=by simpa using hy
   subst this
   exact l2
 ·exact h3 y hy z hz
set_option maxHeartbeats 4000000 in
theorem insertion_nil {n cap a:Nat} {A:Option Addr} (f:Value) (w:World) (ha:a≤1000000):
 Calls Tryz.prog 199 #[.slice A n cap,.int .i64 (a:Int),.int .i64 (a:Int),f] w fun e w'=>e=.returned (.tuple #[])∧w'=w:=by
 have n1:IntKind.i64.wrap ((a:Int)+1)=(a:Int)+1:=IntWalk.i64_in _ (by omega)
 go_enter Tryz.func199,Tryz.ntmps199
 go_wp2
 go_loopw [8] (fun i wr=>i=.int .i64 ((a:Int)+1)∧wr=w) (fun i _=>0)
 case atStart=>exact⟨rfl,rfl⟩
 case round=>
  obtain⟨rfl,rfl⟩:=hrel
  have t:decide ((a:Int)+1<(a:Int))=false:=by simp;omega
  go_wp2_with fail
  refine bodyPost_end (results_none rfl _ _ _) rfl ?_
  exact⟨by first|trivial|rfl,by first|trivial|rfl⟩
set_option maxHeartbeats 4000000 in
theorem insertion_any {B g cap n a b:Nat} {P D S:List Int} {w:World} {fid:FuncId} {lb:Array Value} {key:Int→Int} (hc:CmpOk w g fid lb key D) (ho:Own intR 3 B w (.slice (some ⟨g,0,none⟩) n cap) (P++D++S)) (en:n=(P++D++S).length) (hn:n≤1000000)
 (ea:a=P.length) (eb:b=P.length+D.length) (hD:D.Pairwise (· < ·)) (hne:D≠[]):
 Calls Tryz.prog 199 #[.slice (some ⟨g,0,none⟩) n cap,.int .i64 (a:Int),.int .i64 (b:Int),.func (.func fid) #[] lb] w fun e w'=>
  e=.returned (.tuple #[])∧(∃M,M.Perm D∧Asc key M∧Own intR 3 B w' (.slice (some ⟨g,0,none⟩) n cap) (P++M++S))∧w.grownBy w' (some g):=by
 have HO:=Lib.hid ho
 have HEN:=Lib.hid (And.intro en (And.intro ea eb))
 have hbn:a<b∧b≤n:=by
  have:0<D.length:=List.length_pos_iff.2 hne
  rw[en]
  simp only[List.length_append]
  omega
 have HC:=Lib.hid hc
 have HD:=Lib.hid hD
 have n1:IntKind.i64.wrap ((a:Int)+1)=(a:Int)+1:=IntWalk.i64_in _ (by omega)
 have eg:=hc.1
 obtain⟨d0,D0,rfl⟩:∃d0 D0,D=d0::D0:=by
  cases D with
  |nil=>exact absurd rfl hne
  |cons d0 D0=>exact⟨d0,D0,rfl⟩
 clear ho en ea eb hc hD hne
 go_enter Tryz.func199,Tryz.ntmps199
 go_wp2
 go_loopw [8] (fun i wr=> ∃(k:Nat) (D1 D2 M1:List Int),i=.int .i64 ((a+k:Nat):Int)∧Hid (d0::D0=D1++D2∧D1.length=k∧0<k∧M1.Perm D1∧Asc key M1∧Own intR 3 B wr (.slice (some ⟨g,0,none⟩) n cap) (P++M1++D2++S)∧w.grownBy wr (some g))) (fun i _=>b-(intOf i).toNat)
 case atStart=>
  refine⟨1,[d0],D0,[d0],by simp,rfl,rfl,by omega,List.Perm.refl _,List.pairwise_singleton _ _, ?_,World.grownBy.refl _ _⟩
  have:=HO.out
  simpa using this
 case round=>
  obtain⟨k,D1,D2,M1,rfl,hr⟩:=hrel
  have HR:=Lib.hid hr
  obtain⟨hd,hk,hk0,hp,hasc,hown,hgr⟩:=hr
  rename World=>wo
  by_cases hlt:a+k<b
  ·obtain⟨x,D2',rfl⟩:∃x D2',D2=x::D2':=by
    cases D2 with
    |nil=>
     exfalso
     have h1:=HEN.out.2.2
     have h2:=HEN.out.2.1
     rw[hd] at h1
     simp at h1
     omega
    |cons x D2'=>exact⟨x,D2',rfl⟩
   have hx:x∈d0::D0:=by rw[hd];simp
   have hsub:∀y∈M1,y∈d0::D0∧y<x:=fun y hy=>by
    have hy1:y∈D1:=hp.mem_iff.1 hy
    have h1:=HD.out
    rw[hd] at h1
    exact⟨by rw[hd];simp[hy1],(List.pairwise_append.1 h1).2.2 y hy1 x (by simp)⟩
   have HX:=Lib.hid hx
   have HSUB:=Lib.hid hsub
   have hlen:M1.length=k:=by rw[hp.length_eq,hk]
   have ht:decide (((a+k:Nat):Int)<(b:Int))=true:=by simp;omega
   have hkn:a+k<n:=by omega
   have HL:=Lib.hid hlen
   clear hd hk hk0 hp hasc hown hgr hx hsub
   simp only[Int.natCast_add] at ht⊢
   go_wp2_with fail
   go_loopw [9] (fun j wq=> ∃(q:Nat) (A C:List Int),j=.int .i64 ((a:Int)+(q:Int))∧q≤k∧Hid (A.length=q∧M1=A++C∧(∀y∈C,key x<key y)∧Own intR 3 B wq (.slice (some ⟨g,0,none⟩) n cap) (P++A++x::(C++D2'++S))∧wo.grownBy wq (some g))) (fun j _=>(intOf j).toNat)
   case atStart=>
    refine⟨k,M1,[],by simp,Nat.le_refl _,HL.out,by simp,by simp, ?_,World.grownBy.refl _ _⟩
    have:=HR.out.2.2.2.2.2.1
    simpa using this
   case round=>
    obtain⟨q,A,C,rfl,hqk,hr⟩:=hrel
    have HQ:=Lib.hid hr
    obtain⟨hA,hM,hC,hown,hgr⟩:=hr
    cases q with
    |zero=>
     obtain rfl:A=[]:=List.eq_nil_of_length_eq_zero hA
     have t0:decide ((a:Int)<(a:Int))=false:=by simp
     clear hA hM hC hown hgr
     simp only[Int.natCast_zero,Int.add_zero]
     go_upto_region 4 with fail
     go_quiet (fail)
     go_wp2_with fail
     have nk:IntKind.i64.wrap ((a:Int)+(k:Int)+1)=(a:Int)+(k:Int)+1:=IntWalk.i64_in _ (by omega)
     go_roundw
     case rel=>
      obtain⟨hd,hk,hk0,hp,hasc,hown,hgr⟩:=HR.out
      obtain⟨_,hM,hC,hown2,hgr2⟩:=HQ.out
      rw[List.nil_append] at hM
      subst hM
      refine⟨k+1,D1++[x],D2',x::M1,by go_num,by rw[hd];simp,by simp[hk],by omega, ?_, ?_, ?_, ?_⟩
      ·exact((hp.cons x).trans (List.perm_append_comm (l₁:=[x]) (l₂:=D1)))
      ·exact List.pairwise_cons.2 ⟨fun y hy=> .inl (hC y hy),hasc⟩
      ·exact(show Own intR 3 B wr (.slice (some ⟨g,0,none⟩) n cap) (P++(x::M1)++D2'++S) by simpa using hown2).up (bdN (Below.refl _ _) _)
      ·exact grownBy_trans (grownBy_trans hgr hgr2) (below_grownBy (bdN (Below.refl _ _) _) _)
     case measure=>simp[intOf];omega
    |succ q=>
     obtain⟨A',y,rfl⟩:∃A' y,A=A'++[y]:=⟨A.dropLast,A.getLast (fun e=>by rw[e] at hA;simp at hA),(List.dropLast_concat_getLast _).symm⟩
     have hA':A'.length=q:=by simpa using hA
     have hym:y∈M1:=by rw[hM];simp
     have hcall:=(HC.out.later (grownBy_trans HR.out.2.2.2.2.2.2 hgr)).2
     have t0:decide ((a:Int)<(a:Int)+((q:Int)+1))=true:=by simp;omega
     have e1:P++(A'++[y])++x::(C++D2'++S)=(P++A')++y::([]++x::(C++D2'++S)):=by simp
     have e2:(P++A')++x::([]++y::(C++D2'++S))=P++A'++x::((y::C)++D2'++S):=by simp
     rw[e1] at hown
     have l1:(P++A').length=a+q:=by rw[HEN.out.2.1,←hA'];simp
     obtain⟨c1,c2,f1,f2,zg,_,_⟩:=hown.two
     rw[l1] at c1 c2 f1 f2
     simp only[List.length_nil,Nat.add_zero] at c2 f2
     have g1:=gro_cell c1
     have g2:=gro_cell c2
     have CC:=Lib.hid (fun X (hb:Below wr.heap.size wr X)=>hcall X x y (below_grownBy hb _) HX.out (HSUB.out y hym).1)
     have HCM:=Lib.hid (cmpI_neg (key x) (key y))
     have n3:IntKind.i64.wrap ((a:Int)+((q:Int)+1)-1)=(a:Int)+(q:Int):=by rw[IntWalk.i64_in _ (by omega)];omega
     have n4:(0:Int)≤(a:Int)+((q:Int)+1):=by omega
     have n5:(a:Int)+((q:Int)+1)<(n:Int):=by omega
     have n6:((a:Int)+((q:Int)+1)).toNat=a+q+1:=by omega
     have n7:(0:Int)≤(a:Int)+(q:Int):=by omega
     have n8:(a:Int)+(q:Int)<(n:Int):=by omega
     have n9:((a:Int)+(q:Int)).toNat=a+q:=by omega
     have HOW:=Lib.hid hown
     have HL1:=Lib.hid l1
     have HE2:=Lib.hid e2
     have HE1:=Lib.hid e1
     clear hA hM hC hown hgr hcall e1 e2 l1 c1 c2 f1 f2 zg hym hA'
     simp only[Int.natCast_add,Int.natCast_one]
     generalize cmpI (key x) (key y)=cv at CC HCM
     go_upto_region 4 with fail
     refine wp_region_gro (by kernel_rfl) (by kernel_rfl) ?_
     repeat(go_big_quiet_step (first|(refine Calls.gro_of (CC.out _ (gro_below _ _)))|fail))
     refine wpQuiet_nil ?_
     rintro _ ⟨p,rfl⟩
     have hg:=gro_below wr p
     generalize gro wr p=w2 at hg⊢
     have HO2:=Lib.hid (HOW.out.up hg)
     have HG2:=Lib.hid (below_grownBy hg (some g))
     clear g1 g2 hg CC
     by_cases hkey:key x<key y
     ·have tc:decide (cv<0)=true:=by rw[HCM.out];simpa using hkey
      have ht2:=HO2.out.two
      rw[HL1.out] at ht2
      simp only[List.length_nil,Nat.add_zero] at ht2
      obtain⟨c1,c2,f1,f2,zg,hx1,hx2⟩:=ht2
      clear hx1 hx2
      have ht3:=HO2.out.two_rev
      rw[HL1.out] at ht3
      simp only[List.length_nil,Nat.add_zero] at ht3
      obtain⟨o2,g2⟩:=ht3
      rw[HE2.out] at o2
      have HW:=Lib.hid (And.intro o2 g2)
      clear o2 g2
      simp only[tc]
      go_upto_region 6 with fail
      go_region
      clear c1 c2 f1 f2 zg
      go_wp2_with fail
      obtain⟨hA,hM,hC,hown,hgr⟩:=HQ.out
      refine⟨⟨q,A',y::C,rfl,by omega,by simpa using hA,by rw[hM];simp, ?_,HW.out.1.up (bdd (Below.refl _ _)),grownBy_trans hgr (grownBy_trans HG2.out (grownBy_trans HW.out.2 (below_grownBy (bdd (Below.refl _ _)) _)))⟩,by simp[intOf];omega⟩
      intro z hz
      rcases List.mem_cons.1 hz with rfl|hz
      ·exact hkey
      ·exact hC z hz
     ·have tc:decide (cv<0)=false:=by rw[HCM.out];simpa using hkey
      simp only[tc]
      have nk:IntKind.i64.wrap ((a:Int)+(k:Int)+1)=(a:Int)+(k:Int)+1:=IntWalk.i64_in _ (by omega)
      go_wp2_with fail
      refine⟨?_,by simp[intOf];omega⟩
      ·obtain⟨hd,hk,hk0,hp,hasc,hown0,hgr0⟩:=HR.out
       obtain⟨hA,hM,hC,hown,hgr⟩:=HQ.out
       refine⟨k+1,D1++[x],D2',A'++[y]++x::C,by go_num,by rw[hd];simp,by simp[hk],by omega, ?_, ?_, ?_, ?_⟩
       ·refine List.perm_middle.trans ?_
        rw[←hM]
        exact(hp.cons x).trans (List.perm_append_comm (l₁:=[x]) (l₂:=D1))
       ·rw[hM] at hasc
        refine asc_put hasc hC (fun z hz=>(HSUB.out z (by rw[hM];exact List.mem_append_left _ hz)).2) fun A2 z hz=> ?_
        have:=List.append_inj_right' hz rfl
        injection this with this
        subst this
        exact hkey
       ·have:=HO2.out
        rw[←HE1.out] at this
        simpa using this
       ·exact grownBy_trans hgr0 (grownBy_trans hgr HG2.out)
  ·obtain rfl:D2=[]:=by
    cases D2 with
    |nil=>rfl
    |cons x D2'=>
     exfalso
     have h1:=HEN.out.2.2
     have h2:=HEN.out.2.1
     rw[hd] at h1
     simp at h1
     omega
   rw[List.append_nil] at hd
   have ht:decide (((a+k:Nat):Int)<(b:Int))=false:=by simp;omega
   simp only[Int.natCast_add] at ht⊢
   have hfin:∃M,M.Perm (d0::D0)∧Asc key M∧Own intR 3 B wo (.slice (some ⟨g,0,none⟩) n cap) (P++M++S):=⟨M1,by rw[hd];exact hp,hasc,by simpa using hown⟩
   have HF:=Lib.hid (And.intro hfin hgr)
   clear hd hk hk0 hp hasc hown hgr hfin
   go_wp2_with fail
   refine bodyPost_end (results_none rfl _ _ _) rfl ?_
   exact⟨by first|trivial|rfl,by simpa using HF.out.1,HF.out.2⟩
end Go.Proofs.YtlckmjiioohcmaaGreatDoor
namespace Go.Proofs.YtlckmjiioohcmaaGreatDoor
open Go.RowKit
theorem Own.cellI {e B g n cap k:Nat} {w:World} {l X Y:List Int} {x:Int} (h:Own intR e B w (.slice (some ⟨g,0,none⟩) n cap) l) (el:l=X++x::Y) (ek:k=X.length):w.cell? ⟨g,k,none⟩=some (.int .i64 x):=by
 subst el
 subst ek
 obtain⟨g1,he,_,_,c,_,_⟩:=h.atI (k:=X.length) (by simp)
 injection he with he
 injection he with he
 subst he
 simpa using c
theorem split_at {R:List Int} {k:Nat} (hk:k<R.length) (Y:List Int):R++Y=R.take k++R[k]::(R.drop (k+1)++Y):=by
 rw[←List.cons_append,←List.drop_eq_getElem_cons hk,←List.append_assoc,List.take_append_drop]
theorem asc_key {key:Int→Int} {l:List Int} (h:Asc key l) {i j:Nat} (hj:j<l.length) (hij:i≤j):key l[i]≤key l[j]:=by
 rcases asc_le h hj hij with e|e
 ·rw[e]
  exact Int.le_refl _
 ·unfold lexlt at e
  omega
theorem half_le {u v:Nat} (h:u<v):u≤(u+v)/2∧(u+v)/2<v:=by omega
set_option maxRecDepth 20000 in
set_option maxHeartbeats 4000000 in
theorem symOneLeft_any {B g cap n a m b:Nat} {P R S:List Int} {x:Int} {w:World} {fid:FuncId} {lb:Array Value} {key:Int→Int} (hc:CmpOk w g fid lb key (x::R)) (ho:Own intR 3 B w (.slice (some ⟨g,0,none⟩) n cap) (P++x::R++S)) (en:n=(P++x::R++S).length) (hn:n≤1000000)
 (ea:a=P.length) (em:m=a+1) (eb:b=m+R.length) (hR:Asc key R) (hx:∀y∈R,x<y):
 Calls Tryz.prog 200 #[.slice (some ⟨g,0,none⟩) n cap,.int .i64 (a:Int),.int .i64 (m:Int),.int .i64 (b:Int),.func (.func fid) #[] lb] w fun e w'=>
  e=.returned (.tuple #[])∧(∃M,M.Perm (x::R)∧Asc key M∧Own intR 3 B w' (.slice (some ⟨g,0,none⟩) n cap) (P++M++S))∧w.grownBy w' (some g):=by
 have hbn:b≤n:=by
  rw[en,eb,em,ea]
  simp only[List.length_append,List.length_cons]
  omega
 have hmb:m≤b:=by omega
 have HO:=Lib.hid ho
 have HEN:=Lib.hid (And.intro en (And.intro ea (And.intro em eb)))
 have HC:=Lib.hid hc
 have HR:=Lib.hid (And.intro hR hx)
 have n0:IntKind.i64.wrap ((m:Int)-(a:Int))=1:=by rw[IntWalk.i64_in _ (by omega)];omega
 have eg:=hc.1
 have ham:a<m:=by omega
 clear ho en ea eb em hc hR hx
 go_enter Tryz.func200,Tryz.ntmps200
 go_wp2
 go_loopw [10,11] (fun i j wr=> ∃(u v:Nat),i=.int .i64 (u:Int)∧j=.int .i64 (v:Int)∧m≤u∧u≤v∧v≤b∧Hid ((∀k,(hk:k<R.length)→k<u-m→key R[k]<key x)∧(∀k,(hk:k<R.length)→v-m≤k→¬key R[k]<key x)∧Own intR 3 B wr (.slice (some ⟨g,0,none⟩) n cap) (P++x::R++S)∧w.grownBy wr (some g))) (fun i j _=>(intOf j-intOf i).toNat)
 case atStart=>
  refine⟨m,b,rfl,rfl,Nat.le_refl _,hmb,Nat.le_refl _, ?_, ?_,HO.out,World.grownBy.refl _ _⟩
  ·intro k _ h
   omega
  ·intro k h1 h2
   have:=HEN.out.2.2.2
   omega
 case round=>
  obtain⟨u,v,rfl,rfl,hmu,huv,hvb,hr⟩:=hrel
  have HQ:=Lib.hid hr
  clear hr
  by_cases huv1:u<v
  ·have ht:decide ((u:Int)<(v:Int))=true:=by simp;omega
   have hh:=half_le huv1
   have k1:IntKind.i64.wrap ((u:Int)+(v:Int))=(u:Int)+(v:Int):=IntWalk.i64_in _ (by omega)
   have k2:IntKind.u64.wrap ((u:Int)+(v:Int))=(u:Int)+(v:Int):=IntWalk.u64_in _ (by omega)
   have k3:IntKind.i64.wrap (((u:Int)+(v:Int))/2)=(((u+v)/2:Nat):Int):=by rw[IntWalk.i64_in _ (by omega)];omega
   generalize(u+v)/2=h at hh k3
   go_upto_region 5 with fail
   have hk:h-m<R.length:=by
    have:=HEN.out.2.2.2
    omega
   have eRl:(R.take (h-m)).length=h-m:=by rw[List.length_take];omega
   have c1:wr.cell? ⟨g,a,none⟩=some (.int .i64 x):=HQ.out.2.2.1.cellI (X:=P) (Y:=R++S) (by simp) HEN.out.2.1
   have c2:wr.cell? ⟨g,h,none⟩=some (.int .i64 R[h-m]):=by
    refine HQ.out.2.2.1.cellI (X:=P++x::R.take (h-m)) (Y:=R.drop (h-m+1)++S) ?_ ?_
    ·rw[List.append_assoc,List.cons_append,split_at hk S]
     simp
    ·have:=HEN.out.2.1
     have:=HEN.out.2.2.1
     simp only[List.length_append,List.length_cons,eRl]
     omega
   have g1:=gro_cell c1
   have g2:=gro_cell c2
   have CC:=Lib.hid (fun X (hb:Below wr.heap.size wr X)=>(HC.out.later HQ.out.2.2.2).2 X R[h-m] x (below_grownBy hb _) (by simp) (by simp))
   have HCM:=Lib.hid (cmpI_neg (key R[h-m]) (key x))
   have n2:(a:Int)<(n:Int):=by omega
   have n3:(h:Int)<(n:Int):=by omega
   have n4:IntKind.i64.wrap ((h:Int)+1)=(h:Int)+1:=IntWalk.i64_in _ (by omega)
   clear eRl c1 c2
   generalize cmpI (key R[h-m]) (key x)=cv at CC HCM
   obtain⟨y,hy⟩:∃y,y=R[h-m]:=⟨_,rfl⟩
   rw[←hy] at g2 CC HCM
   have HY:=Lib.hid hy
   clear hy
   refine wp_region_gro (by kernel_rfl) (by kernel_rfl) ?_
   repeat(go_big_quiet_step (first|(refine Calls.gro_of (CC.out _ (gro_below _ _)))|fail))
   refine wpQuiet_nil ?_
   rintro _ ⟨p,rfl⟩
   have hg:=gro_below wr p
   generalize gro wr p=w2 at hg⊢
   have HO2:=Lib.hid (And.intro (HQ.out.2.2.1.up hg) (grownBy_trans HQ.out.2.2.2 (below_grownBy hg (some g))))
   clear g1 g2 hg CC
   by_cases hkey:key y<key x
   ·have tc:decide (cv<0)=true:=by rw[HCM.out];simpa using hkey
    simp only[tc]
    go_wp2_with fail
    refine⟨⟨h+1,v,rfl,rfl,by omega,by omega,hvb, ?_,HQ.out.2.1,HO2.out.1,HO2.out.2⟩,by simp[intOf];omega⟩
    intro k hk1 hk2
    have:=asc_key HR.out.1 hk (i:=k) (by omega)
    rw[←HY.out] at this
    omega
   ·have tc:decide (cv<0)=false:=by rw[HCM.out];simpa using hkey
    simp only[tc]
    go_wp2_with fail
    refine⟨⟨u,h,rfl,rfl,hmu,by omega,by omega,HQ.out.1, ?_,HO2.out.1,HO2.out.2⟩,by simp[intOf];omega⟩
    intro k hk1 hk2
    have:=asc_key HR.out.1 hk1 hk2
    rw[←HY.out] at this
    omega
  ·obtain rfl:v=u:=by omega
   have ht:decide ((v:Int)<(v:Int))=false:=by simp
   have k1:IntKind.i64.wrap ((v:Int)-1)=(v:Int)-1:=IntWalk.i64_in _ (by omega)
   rename World=>wo
   go_wp2_with fail
   go_loopw [13] (fun i wr=> ∃t:Nat,i=.int .i64 ((a+t:Nat):Int)∧a+t+1≤v∧Hid (Own intR 3 B wr (.slice (some ⟨g,0,none⟩) n cap) (P++R.take t++x::(R.drop t++S))∧w.grownBy wr (some g))) (fun i _=>v-(intOf i).toNat)
   case atStart=>
    refine⟨0,by simp,by omega, ?_,HQ.out.2.2.2⟩
    simpa using HQ.out.2.2.1
   case round=>
    obtain⟨t,rfl,htu,hr⟩:=hrel
    have HT:=Lib.hid hr
    clear hr
    simp only[Int.natCast_add]
    by_cases hlt:a+t+1<v
    ·have ht1:decide ((a:Int)+(t:Int)<(v:Int)-1)=true:=by simp;omega
     have hk:t<R.length:=by
      have:=HEN.out.2.2.2
      have:=HEN.out.2.2.1
      omega
     have hown:=HT.out.1
     rw[List.drop_eq_getElem_cons hk,List.cons_append,←List.nil_append (R[t]::(R.drop (t+1)++S))] at hown
     have l1:(P++R.take t).length=a+t:=by
      have:=HEN.out.2.1
      rw[List.length_append,List.length_take]
      omega
     obtain⟨c1,c2,f1,f2,zg,o2,g2⟩:=hown.two
     rw[l1] at c1 c2 f1 f2 o2 g2
     simp only[List.length_nil,Nat.add_zero] at c2 f2 o2 g2
     rw[show(P++R.take t)++R[t]::([]++x::(R.drop (t+1)++S))=P++R.take (t+1)++x::(R.drop (t+1)++S) by rw[List.take_succ_eq_append_getElem hk];simp only[List.append_assoc,List.cons_append,List.nil_append]] at o2
     have HW:=Lib.hid (And.intro o2 (grownBy_trans HT.out.2 g2))
     have n3:IntKind.i64.wrap ((a:Int)+(t:Int)+1)=(a:Int)+(t:Int)+1:=IntWalk.i64_in _ (by omega)
     have n4:(0:Int)≤(a:Int)+(t:Int)+1:=by omega
     have n5:(a:Int)+(t:Int)+1<(n:Int):=by omega
     have n6:((a:Int)+(t:Int)+1).toNat=a+t+1:=by omega
     have n7:(0:Int)≤(a:Int)+(t:Int):=by omega
     have n8:(a:Int)+(t:Int)<(n:Int):=by omega
     have n9:((a:Int)+(t:Int)).toNat=a+t:=by omega
     clear hown l1 o2 g2
     generalize R[t]=y at*
     clear hk
     go_upto_region 11 with fail
     go_region
     clear c1 c2 f1 f2 zg
     go_wp2_with fail
     refine⟨⟨t+1,by go_num,by omega,HW.out.1.up (bdd (Below.refl _ _)),grownBy_trans HW.out.2 (below_grownBy (bdd (Below.refl _ _)) _)⟩,by simp[intOf];omega⟩
    ·have ht1:decide ((a:Int)+(t:Int)<(v:Int)-1)=false:=by simp;omega
     go_wp2_with fail
     refine bodyPost_ret (results_none rfl _ _ _) rfl ?_
     refine⟨by first|trivial|rfl,⟨R.take t++x::R.drop t, ?_, ?_, ?_⟩,HT.out.2⟩
     ·exact List.perm_middle.trans (by rw[List.take_append_drop])
     ·have em:=HEN.out.2.2.1
      refine one_left HR.out.1 HR.out.2 (fun k h1 h2=>HQ.out.1 k h1 (by omega)) fun k h1 h2=> ?_
      have:=HQ.out.2.1 k h1 (by omega)
      omega
     ·simpa using HT.out.1
end Go.Proofs.YtlckmjiioohcmaaGreatDoor
namespace Go.Proofs.YtlckmjiioohcmaaGreatDoor
open Go.RowKit
set_option maxRecDepth 20000 in
set_option maxHeartbeats 4000000 in
theorem symOneRight_any {B g cap n a m b:Nat} {P L S:List Int} {x:Int} {w:World} {fid:FuncId} {lb:Array Value} {key:Int→Int} (hc:CmpOk w g fid lb key (L++[x])) (ho:Own intR 3 B w (.slice (some ⟨g,0,none⟩) n cap) (P++L++x::S)) (en:n=(P++L++x::S).length) (hn:n≤1000000)
 (ea:a=P.length) (em:m=a+L.length) (eb:b=m+1) (hL:Asc key L) (hx:∀y∈L,y<x) (hl:1<L.length):
 Calls Tryz.prog 200 #[.slice (some ⟨g,0,none⟩) n cap,.int .i64 (a:Int),.int .i64 (m:Int),.int .i64 (b:Int),.func (.func fid) #[] lb] w fun e w'=>
  e=.returned (.tuple #[])∧(∃M,M.Perm (L++[x])∧Asc key M∧Own intR 3 B w' (.slice (some ⟨g,0,none⟩) n cap) (P++M++S))∧w.grownBy w' (some g):=by
 have hbn:b≤n:=by
  rw[en,eb,em,ea]
  simp only[List.length_append,List.length_cons]
  omega
 have ham:a+1<m:=by omega
 have hmb:m<b:=by omega
 have HO:=Lib.hid ho
 have HEN:=Lib.hid (And.intro en (And.intro ea (And.intro em eb)))
 have HC:=Lib.hid hc
 have HR:=Lib.hid (And.intro hL hx)
 have n0:IntKind.i64.wrap ((m:Int)-(a:Int))=(m:Int)-(a:Int):=IntWalk.i64_in _ (by omega)
 have n00:decide ((m:Int)-(a:Int)=1)=false:=by simp;omega
 have n01:IntKind.i64.wrap ((b:Int)-(m:Int))=1:=by rw[IntWalk.i64_in _ (by omega)];omega
 have eg:=hc.1
 clear ho en ea eb em hc hL hx hl
 go_enter Tryz.func200,Tryz.ntmps200
 go_wp2
 go_loopw [14,15] (fun i j wr=> ∃(u v:Nat),i=.int .i64 (u:Int)∧j=.int .i64 (v:Int)∧a≤u∧u≤v∧v≤m∧Hid ((∀k,(hk:k<L.length)→k<u-a→¬key x<key L[k])∧(∀k,(hk:k<L.length)→v-a≤k→key x<key L[k])∧Own intR 3 B wr (.slice (some ⟨g,0,none⟩) n cap) (P++L++x::S)∧w.grownBy wr (some g))) (fun i j _=>(intOf j-intOf i).toNat)
 case atStart=>
  refine⟨a,m,rfl,rfl,Nat.le_refl _,by omega,Nat.le_refl _, ?_, ?_,HO.out,World.grownBy.refl _ _⟩
  ·intro k _ h
   omega
  ·intro k h1 h2
   have:=HEN.out.2.2.1
   omega
 case round=>
  obtain⟨u,v,rfl,rfl,hmu,huv,hvb,hr⟩:=hrel
  have HQ:=Lib.hid hr
  clear hr
  by_cases huv1:u<v
  ·have ht:decide ((u:Int)<(v:Int))=true:=by simp;omega
   have hh:=half_le huv1
   have k1:IntKind.i64.wrap ((u:Int)+(v:Int))=(u:Int)+(v:Int):=IntWalk.i64_in _ (by omega)
   have k2:IntKind.u64.wrap ((u:Int)+(v:Int))=(u:Int)+(v:Int):=IntWalk.u64_in _ (by omega)
   have k3:IntKind.i64.wrap (((u:Int)+(v:Int))/2)=(((u+v)/2:Nat):Int):=by rw[IntWalk.i64_in _ (by omega)];omega
   generalize(u+v)/2=h at hh k3
   go_upto_region 17 with fail
   have hk:h-a<L.length:=by
    have:=HEN.out.2.2.1
    omega
   have eRl:(L.take (h-a)).length=h-a:=by rw[List.length_take];omega
   have c1:wr.cell? ⟨g,m,none⟩=some (.int .i64 x):=HQ.out.2.2.1.cellI (X:=P++L) (Y:=S) rfl (by rw[List.length_append,HEN.out.2.2.1,HEN.out.2.1])
   have c2:wr.cell? ⟨g,h,none⟩=some (.int .i64 L[h-a]):=by
    refine HQ.out.2.2.1.cellI (X:=P++L.take (h-a)) (Y:=L.drop (h-a+1)++x::S) ?_ ?_
    ·rw[List.append_assoc,split_at hk (x::S)]
     simp
    ·have:=HEN.out.2.1
     simp only[List.length_append,eRl]
     omega
   have g1:=gro_cell c1
   have g2:=gro_cell c2
   have CC:=Lib.hid (fun X (hb:Below wr.heap.size wr X)=>(HC.out.later HQ.out.2.2.2).2 X x L[h-a] (below_grownBy hb _) (by simp) (by simp))
   have HCM:=Lib.hid (cmpI_neg (key x) (key L[h-a]))
   have n2:(m:Int)<(n:Int):=by omega
   have n3:(h:Int)<(n:Int):=by omega
   have n4:IntKind.i64.wrap ((h:Int)+1)=(h:Int)+1:=IntWalk.i64_in _ (by omega)
   clear eRl c1 c2
   generalize cmpI (key x) (key L[h-a])=cv at CC HCM
   obtain⟨y,hy⟩:∃y,y=L[h-a]:=⟨_,rfl⟩
   rw[←hy] at g2 CC HCM
   have HY:=Lib.hid hy
   clear hy
   refine wp_region_gro (by kernel_rfl) (by kernel_rfl) ?_
   repeat(go_big_quiet_step (first|(refine Calls.gro_of (CC.out _ (gro_below _ _)))|fail))
   refine wpQuiet_nil ?_
   rintro _ ⟨p,rfl⟩
   have hg:=gro_below wr p
   generalize gro wr p=w2 at hg⊢
   have HO2:=Lib.hid (And.intro (HQ.out.2.2.1.up hg) (grownBy_trans HQ.out.2.2.2 (below_grownBy hg (some g))))
   clear g1 g2 hg CC
   by_cases hkey:key x<key y
   ·have tc:decide (cv<0)=true:=by rw[HCM.out];simpa using hkey
    simp only[tc]
    go_wp2_with fail
    refine⟨⟨u,h,rfl,rfl,hmu,by omega,by omega,HQ.out.1, ?_,HO2.out.1,HO2.out.2⟩,by simp[intOf];omega⟩
    intro k hk1 hk2
    have:=asc_key HR.out.1 hk1 hk2
    rw[←HY.out] at this
    omega
   ·have tc:decide (cv<0)=false:=by rw[HCM.out];simpa using hkey
    simp only[tc]
    go_wp2_with fail
    refine⟨⟨h+1,v,rfl,rfl,by omega,by omega,hvb, ?_,HQ.out.2.1,HO2.out.1,HO2.out.2⟩,by simp[intOf];omega⟩
    intro k hk1 hk2
    have:=asc_key HR.out.1 hk (i:=k) (by omega)
    rw[←HY.out] at this
    omega
  ·obtain rfl:v=u:=by omega
   have ht:decide ((v:Int)<(v:Int))=false:=by simp
   rename World=>wo
   go_wp2_with fail
   go_loopw [17] (fun i wr=> ∃t:Nat,i=.int .i64 ((a+t:Nat):Int)∧v≤a+t∧a+t≤m∧Hid (Own intR 3 B wr (.slice (some ⟨g,0,none⟩) n cap) (P++L.take t++x::(L.drop t++S))∧w.grownBy wr (some g))) (fun i _=>(intOf i).toNat)
   case atStart=>
    have em:=HEN.out.2.2.1
    refine⟨L.length,by rw[em],by omega,by omega, ?_,HQ.out.2.2.2⟩
    simpa using HQ.out.2.2.1
   case round=>
    obtain⟨t,rfl,htu,htm,hr⟩:=hrel
    have HT:=Lib.hid hr
    clear hr
    simp only[Int.natCast_add]
    by_cases hlt:v<a+t
    ·have ht1:decide ((v:Int)<(a:Int)+(t:Int))=true:=by simp;omega
     obtain⟨t,rfl⟩:∃q,t=q+1:=⟨t-1,by omega⟩
     have hk:t<L.length:=by
      have:=HEN.out.2.2.1
      omega
     have hown:=HT.out.1
     rw[show P++L.take (t+1)++x::(L.drop (t+1)++S)=(P++L.take t)++L[t]::([]++x::(L.drop (t+1)++S)) by rw[List.take_succ_eq_append_getElem hk];simp only[List.append_assoc,List.cons_append,List.nil_append]] at hown
     have l1:(P++L.take t).length=a+t:=by
      have:=HEN.out.2.1
      rw[List.length_append,List.length_take]
      omega
     obtain⟨c1,c2,f1,f2,zg,hz1,hz2⟩:=hown.two
     clear hz1 hz2
     obtain⟨o2,g2⟩:=hown.two_rev
     rw[l1] at c1 c2 f1 f2 o2 g2
     simp only[List.length_nil,Nat.add_zero] at c2 f2 o2 g2
     rw[show(P++L.take t)++x::([]++L[t]::(L.drop (t+1)++S))=P++L.take t++x::(L.drop t++S) by rw[List.drop_eq_getElem_cons hk];simp only[List.append_assoc,List.cons_append,List.nil_append]] at o2
     have HW:=Lib.hid (And.intro o2 (grownBy_trans HT.out.2 g2))
     have n3:IntKind.i64.wrap ((a:Int)+((t:Int)+1)-1)=(a:Int)+(t:Int):=by rw[IntWalk.i64_in _ (by omega)];omega
     have n4:(0:Int)≤(a:Int)+((t:Int)+1):=by omega
     have n5:(a:Int)+((t:Int)+1)<(n:Int):=by omega
     have n6:((a:Int)+((t:Int)+1)).toNat=a+t+1:=by omega
     have n7:(0:Int)≤(a:Int)+(t:Int):=by omega
     have n8:(a:Int)+(t:Int)<(n:Int):=by omega
     have n9:((a:Int)+(t:Int)).toNat=a+t:=by omega
     clear hown l1 o2 g2
     generalize L[t]=y at*
     clear hk
     simp only[Int.natCast_add,Int.natCast_one] at ht1⊢
     go_upto_region 23 with fail
     go_region
     clear c1 c2 f1 f2 zg
     go_wp2_with fail
     refine⟨⟨t,by go_num,by omega,by omega,HW.out.1.up (bdd (Below.refl _ _)),grownBy_trans HW.out.2 (below_grownBy (bdd (Below.refl _ _)) _)⟩,by simp[intOf];omega⟩
    ·have ht1:decide ((v:Int)<(a:Int)+(t:Int))=false:=by simp;omega
     go_wp2_with fail
     refine bodyPost_ret (results_none rfl _ _ _) rfl ?_
     refine⟨by first|trivial|rfl,⟨L.take t++x::L.drop t, ?_, ?_, ?_⟩,HT.out.2⟩
     ·exact List.perm_middle.trans (by rw[List.take_append_drop];exact(List.perm_append_comm (l₁:=[x]) (l₂:=L)))
     ·refine one_right HR.out.1 HR.out.2 (fun k h1 h2=> ?_) fun k h1 h2=>HQ.out.2.1 k h1 (by omega)
      have:=HQ.out.1 k h1 (by omega)
      omega
     ·simpa using HT.out.1
end Go.Proofs.YtlckmjiioohcmaaGreatDoor

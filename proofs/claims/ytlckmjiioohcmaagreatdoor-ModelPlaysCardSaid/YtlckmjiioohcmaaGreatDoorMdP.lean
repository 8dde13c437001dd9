/-
  Walks of adjacent's choices, of the iterator that it hands back, and of best's measure. Conditions: as each theorem says.
  Walks of adjacent's measure of a choice, and of best. Conditions: as each theorem says.
  Walk of adjacent's best. Conditions: as the theorem says.
  Walk of adjacent's Best. Conditions: as the theorem says.
  The office's block: its data; where a best choice lies; a row of bools that the call makes. Conditions: as each theorem says.
  Walk of the office's block. Conditions: as the theorem says.
-/
import Derived.Test.YtlckmjiioohcmaaGreatDoorAdE
import Derived.Test.YtlckmjiioohcmaaGreatDoorLib
import Derived.Deep.CutRange
import Derived.Laws.EntriesVeiled
namespace Go.Proofs.YtlckmjiioohcmaaGreatDoor
open Go.RowKit Go.Shelf
attribute [local go_sem] Oper.semAt_some
structure Cho where
 run:Ru
 before:Int
 after:Int
deriving DecidableEq
def choEnc (x:Cho):Array Value:=#[.agg #[.int .i64 x.run.row,.int .i64 x.run.first,.int .i64 x.run.many,.int .i64 x.before,.int .i64 x.after]]
def choCells (x:Cho):Array Value:=#[.int .i64 x.run.row,.int .i64 x.run.first,.int .i64 x.run.many,.int .i64 x.before,.int .i64 x.after]
def cnt (m:Int) (r:Ru):Nat:=(r.many-m+1).toNat
def choAt (m:Int) (r:Ru) (k:Nat):Cho:=⟨r,k,r.many-m-k⟩
def chosR (m:Int) (r:Ru):List Cho:=(List.range (cnt m r)).map (choAt m r)
def chos (rs:List Ru) (m:Int):List Cho:=rs.flatMap (chosR m)
def comeC (rs:List Ru) (m:Int) (i k:Nat):List Cho:=chos (rs.take i) m++((rs[i]?.map (chosR m)).getD []).take k
theorem comeC_next {rs:List Ru} {m:Int} {i k:Nat} (hi:i<rs.length) (hk:k<cnt m rs[i]):comeC rs m i (k+1)=comeC rs m i k++[choAt m rs[i] k]:=by
 simp only[comeC,List.getElem?_eq_getElem hi,Option.map_some,Option.getD_some]
 rw[List.take_succ_eq_append_getElem (by simpa[chosR] using hk),←List.append_assoc]
 simp[chosR]
theorem comeC_all {rs:List Ru} {m:Int} {i:Nat} (hi:i<rs.length):comeC rs m i (cnt m rs[i])=chos (rs.take (i+1)) m:=by
 simp only[comeC,List.getElem?_eq_getElem hi,Option.map_some,Option.getD_some]
 rw[List.take_of_length_le (l:=chosR m rs[i]) (by simp[chosR]),List.take_succ_eq_append_getElem hi]
 unfold chos
 rw[List.flatMap_append]
 simp only[List.flatMap_cons,List.flatMap_nil,List.append_nil]
theorem comeC_zero (rs:List Ru) (m:Int) (i:Nat):comeC rs m i 0=chos (rs.take i) m:=by simp[comeC]
theorem comeC_pre {rs:List Ru} {m:Int} {i k:Nat} (hi:i<rs.length) (_hk:k≤cnt m rs[i]):∃r,chos rs m=comeC rs m i k++r:=by
 refine⟨(chosR m rs[i]).drop k++chos (rs.drop (i+1)) m, ?_⟩
 simp only[comeC,List.getElem?_eq_getElem hi,Option.map_some,Option.getD_some]
 have h:rs=rs.take i++(rs[i]::rs.drop (i+1)):=by rw[←List.drop_eq_getElem_cons hi,List.take_append_drop]
 conv=>lhs;rw[h]
 unfold chos
 rw[List.flatMap_append,List.flatMap_cons,List.append_assoc]
 congr 1
 rw[←List.append_assoc,List.take_append_drop]
structure KeepX (x y:Nat) (A B:World):Prop where
 size:A.heap.size≤B.heap.size
 same:∀(k:Nat) (o:Obj),A.heap[k]?=some o→o.isCells=true→k≠x→k≠y→B.heap[k]?=some o
theorem KeepX.refl (x y:Nat) (A:World):KeepX x y A A:=⟨Nat.le_refl _,fun _ _ h _ _ _=>h⟩
theorem KeepX.trans {x y:Nat} {A B C:World} (h:KeepX x y A B) (k:KeepX x y B C):KeepX x y A C:=⟨Nat.le_trans h.size k.size,fun i o ho hc hx hy=>k.same i o (h.same i o ho hc hx hy) hc hx hy⟩
theorem KeepX.of (x y:Nat) {A B:World} (h:Below A.heap.size A B):KeepX x y A B:=⟨h.size,fun k _ ho _ _ _=>(h.block k (Array.getElem?_eq_some_iff.1 ho).1).trans ho⟩
theorem KeepX.grown {x y k:Nat} {A B:World} (h:A.grownBy B (some k)) (hk:k=x∨k=y):KeepX x y A B:=
 ⟨h.size,fun i _ ho _ hx hy=>(h.block i (Array.getElem?_eq_some_iff.1 ho).1 (fun e=>by injection e with e;omega)).trans ho⟩
theorem KeepX.putObj (x y:Nat) (W:World) (l:Nat) (o o':Obj) (hl:W.heap[l]?=some o) (hc:o.isCells=false):KeepX x y W (W.putObj l o'):=by
 have hg:=grownBy_putObj' W l o'
 refine⟨hg.size,fun k p hk hp _ _=>(hg.block k (Array.getElem?_eq_some_iff.1 hk).1 (fun e=> ?_)).trans hk⟩
 injection e with e
 subst e
 rw[hl] at hk
 injection hk with hk
 subst hk
 rw[hc] at hp
 cases hp
theorem BoxN.keepX {x y B:Nat} {W W':World} {t:TypeId} {cs:Array Value} (h:BoxN W B t cs) (hk:KeepX x y W W') (hx:B≠x) (hy:B≠y):BoxN W' B t cs:=hk.same B _ h rfl hx hy
theorem Sl.atRu {w:World} {A:Option Addr} {n c k:Nat} {xs:List Ru} (h:Sl ruR w (.slice A n c) xs) (hk:k<xs.length):
 ∃b off,A=some ⟨b,off,.none⟩∧b<w.heap.size∧w.cell? ⟨b,off+k*3,.none⟩=some (.int .i64 xs[k].row)∧w.cell? ⟨b,off+k*3+1,.none⟩=some (.int .i64 xs[k].first)∧w.cell? ⟨b,off+k*3+2,.none⟩=some (.int .i64 xs[k].many)∧RuOk xs[k]:=by
 obtain⟨b,off,cs,rfl,hb,⟨rfl,hx⟩,h2⟩:=h.at_ hk
 exact⟨b,off,rfl,hb,h2 0 _ rfl,h2 1 _ rfl,h2 2 _ rfl,hx⟩
set_option maxHeartbeats 1000000 in
theorem choices_in (F:Fence) (n:Nat) (hF:F.fn 196) (hro:F.round=none) (A:Option Addr) (ln c:Nat) (m:Int) (w:World):
 CallsIn F n Tryz.prog 196 #[.slice A ln c,.int .i64 m] w fun e w'=>e=.returned (.func (.func 207) #[] #[.pointer (some ⟨w.heap.size,0,none⟩),.pointer (some ⟨w.heap.size+1,0,none⟩)])∧w'=(w.alloc (.cells #[.slice A ln c] 211)).alloc (.cells #[.int .i64 m] 3):=by
 refine callsIn_of_wp Tryz.func196 rfl hF ?_ hro
 simp only[Tryz.ntmps196,List.size_toArray,List.length_cons,List.length_nil,Nat.reduceAdd,Nat.reduceSub,Array.replicate_succ,Array.replicate_zero,List.push_toArray,List.append_toArray,List.nil_append,List.cons_append]
 gi_wp2
 go_ret
 exact⟨rfl,rfl⟩
set_option maxRecDepth 100000 in
set_option maxHeartbeats 4000000 in
theorem choices1_in (F:Fence) (n:Nat) (hF:F.fn 207) (hro:F.round=none) (hn:1≤n) (l Bl Bn X Y:Nat) (w0:World) (A:Option Addr) (c:Nat) (rs:List Ru) (m:Int) (hs:Sl ruR w0 (.slice A rs.length c) rs) (hm:1≤m∧m≤8)
 (J Jx:List Cho→World→Prop) (W:World) (hJ:AbidesFrom W.heap.size J) (hX:X<W.heap.size) (hY':Y<W.heap.size) (hnX:Bn≠X) (hnY:Bn≠Y)
 (hY:∀pre x W,J pre W→pre.length<(chos rs m).length→YieldAt F (n-1) Tryz.prog l (choEnc x) W fun e W'=>
  (e=.returned (.bool true)∧J (pre++[x]) W'∧(Below w0.heap.size W W'∧KeepX X Y W W'))∨(e=.returned (.bool false)∧Jx (pre++[x]) W'))
 (hb:Below w0.heap.size w0 W) (hBl:BoxN W Bl 211 #[.slice A rs.length c]) (hBn:BoxN W Bn 3 #[.int .i64 m]) (h0:J [] W):
 CallsIn F n Tryz.prog 207 #[.func (.yield l) #[] #[],.pointer (some ⟨Bl,0,none⟩),.pointer (some ⟨Bn,0,none⟩)] W fun e W'=>(∃v,e=.returned v)∧
  ((∃ys,ys=chos rs m∧J ys W')∨(∃pre,pre<+:chos rs m∧Jx pre W')):=by
 have cl:=hBl.cell 0 _ rfl
 have zl:=hBl.lt
 have HBn:=Lib.hid hBn
 have hl:rs.length≤9223372036854775807:=by
  obtain⟨_,_,he,h1,h2,_⟩:=hs
  injection he with _ e2 e3
  omega
 clear hBn hBl
 refine callsIn_of_wp Tryz.func207 rfl hF ?_ hro
 simp only[Tryz.ntmps207,List.size_toArray,List.length_cons,List.length_nil,Nat.reduceAdd,Nat.reduceSub,Array.replicate_succ,Array.replicate_zero,List.push_toArray,List.append_toArray,List.nil_append,List.cons_append]
 gi_wp2
 clear cl zl
 gi_loopw [9] (fun i wr=> ∃k:Nat,k≤rs.length∧i=.int .i64 k∧Hid (Below w0.heap.size w0 wr∧W.heap.size≤wr.heap.size∧BoxN wr Bn 3 #[.int .i64 m]∧J (chos (rs.take k) m) wr)) (fun i _=>rs.length-(intOf i).toNat)
 case atStart=>exact⟨0,by omega,rfl,hb,Nat.le_refl _,HBn.out,h0⟩
 case round=>
  obtain⟨k,hk,rfl,hb1⟩:=hrel
  obtain⟨hb1,hz1,hn1,hJ1⟩:=hb1.out
  by_cases hlt:k<rs.length
  ·obtain⟨b,off,rfl,hbl,e0,e1,e2,hru⟩:=(hs.up hb1).atRu hlt
   have hk0:(0:Int)≤(k:Int):=by omega
   have hk1:(k:Int)<(rs.length:Int):=by omega
   have nk:IntKind.i64.wrap ((k:Int)+1)=(k:Int)+1:=IntWalk.i64_in _ (by omega)
   have cn:=hn1.cell 0 _ rfl
   have zn:=hn1.lt
   have HRU:=Lib.hid hru
   have hcnt:cnt m rs[k]=(rs[k].many-m+1).toNat:=rfl
   have hr3:=hru.2.2
   have H1:=Lib.hid (And.intro hb1 (And.intro hz1 (And.intro hn1 hJ1)))
   have HNX:=Lib.hid (fun j=> @comeC_next rs m k j hlt)
   have HAL:=Lib.hid (@comeC_all rs m k hlt)
   have HPR:=Lib.hid (fun j=> @comeC_pre rs m k j hlt)
   clear hb1 hJ1 hn1 hru
   generalize rs[k]=r at*
   obtain⟨rr,rf,rm⟩:=r
   simp only at e0 e1 e2 hr3 hcnt
   gi_wp2
   have hmax:max (rm-m+1) 0=((cnt m ⟨rr,rf,rm⟩:Nat):Int):=by rw[hcnt];omega
   rw[hmax]
   have hq1:(cnt m ⟨rr,rf,rm⟩:Int)≤1000000:=by rw[hcnt];omega
   clear hmax hcnt e0 e1 e2 cn zn
   have HB:=Lib.hid (BoxN.new wr 206 #[.int .i64 rr,.int .i64 rf,.int .i64 rm])
   have hrx:wr.heap.size≠X:=by omega
   have hry:wr.heap.size≠Y:=by omega
   have HW:=Lib.hid (show Below w0.heap.size w0 (wr.alloc (.cells #[.int .i64 rr,.int .i64 rf,.int .i64 rm] 206))∧W.heap.size≤(wr.alloc (.cells #[.int .i64 rr,.int .i64 rf,.int .i64 rm] 206)).heap.size∧BoxN (wr.alloc (.cells #[.int .i64 rr,.int .i64 rf,.int .i64 rm] 206)) Bn 3 #[.int .i64 m]∧J (chos (rs.take k) m) (wr.alloc (.cells #[.int .i64 rr,.int .i64 rf,.int .i64 rm] 206)) from
    ⟨bal H1.out.1,by simp[World.size_alloc];omega,H1.out.2.2.1.alloc _,hJ _ _ _ none H1.out.2.2.2 (World.grownBy_alloc _ _ none) (fun r e=>by cases e)⟩)
   generalize hrb:wr.heap.size=rb at HB hrx hry⊢
   generalize wr.alloc (.cells #[.int .i64 rr,.int .i64 rf,.int .i64 rm] 206)=w2 at HB HW⊢
   generalize hq:cnt m ⟨rr,rf,rm⟩=q at HNX HAL HPR hq1⊢
   clear hrb
   gi_loopw [19] (fun i wi=> ∃j:Nat,j≤q∧i=.int .i64 j∧Hid (Below w0.heap.size w0 wi∧W.heap.size≤wi.heap.size∧BoxN wi Bn 3 #[.int .i64 m]∧BoxN wi rb 206 #[.int .i64 rr,.int .i64 rf,.int .i64 rm]∧J (comeC rs m k j) wi)) (fun i _=>q-(intOf i).toNat)
   case atStart=>
    exact⟨0,by omega,rfl,HW.out.1,HW.out.2.1,HW.out.2.2.1,HB.out,by rw[comeC_zero];exact HW.out.2.2.2⟩
   case round=>
    obtain⟨j,hj,rfl,hbj⟩:=hrel
    have hr:=Lib.hid hq
    clear hq
    obtain⟨hb2,hz2,hn2,hr2,hJ2⟩:=hbj.out
    by_cases hjt:j<q
    ·have hj0:(0:Int)≤(j:Int):=by omega
     have hj1:(j:Int)<(q:Int):=by omega
     have hj2:(j:Int)≤1000000:=by omega
     have nj:IntKind.i64.wrap ((j:Int)+1)=(j:Int)+1:=IntWalk.i64_in _ (by omega)
     obtain⟨r,hpre⟩:=HPR.out (j+1) hjt
     have hcn:=HNX.out j hjt
     have hlen2:(comeC rs m k j).length<(chos rs m).length:=by rw[hpre,hcn];simp
     obtain⟨fn,tmps,assign,body,hy,hR⟩:=hY (comeC rs m k j) (choAt m ⟨rr,rf,rm⟩ j) _ hJ2 hlen2
     simp only[choEnc,choAt] at hy
     rw[←hcn] at hR
     have HR:=Lib.hid hpre
     have HB2:=Lib.hid (And.intro hb2 (And.intro hz2 (And.intro hn2 hr2)))
     have cn:=hn2.cell 0 _ rfl
     have zn:=hn2.lt
     have d0:=hr2.cell 0 _ rfl
     have d1:=hr2.cell 1 _ rfl
     have d2:=hr2.cell 2 _ rfl
     have zr:=hr2.lt
     clear hcn hpre hlen2 hb2 hJ2 hz2 hn2 hr2
     gi_wp2
     refine hR.mono ?_
     rintro e W3 (⟨rfl,hJ3,hk3,hx3⟩|⟨rfl,hJx3⟩)
     ·have HB3:=Lib.hid (And.intro (HB2.out.1.trans hk3) (And.intro (Nat.le_trans HB2.out.2.1 hk3.size) (And.intro (HB2.out.2.2.1.keepX hx3 hnX hnY) (And.intro (HB2.out.2.2.2.keepX hx3 hrx hry) hJ3))))
      clear HB2 HB
      gi_wp2
      go_roundw
      case rel=>exact⟨j+1,by omega,by go_num,HB3.out.1,HB3.out.2.1,HB3.out.2.2.1,HB3.out.2.2.2.1,HB3.out.2.2.2.2⟩
      case measure=>simp[intOf];omega
     ·gi_wp2
      refine bodyPost_ret (results_none rfl _ _ _) rfl ?_
      exact⟨⟨_,rfl⟩,.inr ⟨_,⟨r,HR.out.symm⟩,hJx3⟩⟩
    ·obtain rfl:j=q:=by omega
     have H2:=Lib.hid (And.intro hb2 (And.intro hz2 (And.intro hn2 hJ2)))
     clear hb2 hz2 hJ2 hn2 hr2
     gi_wp2
     go_roundw
     case rel=>exact⟨k+1,by omega,by go_num,H2.out.1,H2.out.2.1,H2.out.2.2.1,by rw[←HAL.out];exact H2.out.2.2.2⟩
     case measure=>simp[intOf];omega
  ·obtain rfl:k=rs.length:=by omega
   rw[List.take_length] at hJ1
   gi_wp2
   go_end0
   exact⟨⟨_,rfl⟩,.inl ⟨_,rfl,hJ1⟩⟩
end Go.Proofs.YtlckmjiioohcmaaGreatDoor
namespace Go.Proofs.YtlckmjiioohcmaaGreatDoor
open Go.RowKit Go.Shelf
attribute [local go_sem] Oper.semAt_some
def moreC (c:Cho):Int:=aloneV c.before+aloneV c.after-aloneV c.run.many
theorem aloneV_bd (n:Int):0≤aloneV n∧aloneV n≤1:=by unfold aloneV;split<;>omega
set_option maxRecDepth 20000 in
set_option maxHeartbeats 1000000 in
theorem best1_any (c:Cho) (w:World):Calls Tryz.prog 194 #[.agg (choCells c)] w fun e w'=>e=.returned (.int .i64 (moreC c))∧Below w.heap.size w w':=by
 obtain⟨⟨r0,r1,r2⟩,b,a⟩:=c
 have hb:=aloneV_bd b
 have ha:=aloneV_bd a
 have hr:=aloneV_bd r2
 unfold choCells moreC
 simp only
 have C1:=Lib.hid (fun X=>(alone_any b X).mono fun e w' (h:e=.returned (.int .i64 (aloneV b))∧w'=X)=>(show e=.returned (.int .i64 (aloneV b))∧Below X.heap.size X w' from⟨h.1,h.2▸Below.refl _ _⟩))
 have C2:=Lib.hid (fun X=>(alone_any a X).mono fun e w' (h:e=.returned (.int .i64 (aloneV a))∧w'=X)=>(show e=.returned (.int .i64 (aloneV a))∧Below X.heap.size X w' from⟨h.1,h.2▸Below.refl _ _⟩))
 have C3:=Lib.hid (fun X=>(alone_any r2 X).mono fun e w' (h:e=.returned (.int .i64 (aloneV r2))∧w'=X)=>(show e=.returned (.int .i64 (aloneV r2))∧Below X.heap.size X w' from⟨h.1,h.2▸Below.refl _ _⟩))
 generalize aloneV b=vb at*
 generalize aloneV a=va at*
 generalize aloneV r2=vr at*
 go_enter Tryz.func194,Tryz.ntmps194
 go_upto_region 1 with fail
 refine at_world (fun X=>Below w.heap.size w X∧BoxN X w.heap.size 208 #[.int .i64 r0,.int .i64 r1,.int .i64 r2,.int .i64 b,.int .i64 a]) ⟨ba _ _,BoxN.new _ _ _⟩ fun w1 ⟨hb1,p1⟩=> ?_
 have g2:=gro_cell (p1.cell 2 _ rfl)
 have g3:=gro_cell (p1.cell 3 _ rfl)
 have g4:=gro_cell (p1.cell 4 _ rfl)
 have HB:=Lib.hid hb1
 clear hb1 p1
 refine wp_region_gro (by kernel_rfl) (by kernel_rfl) ?_
 repeat(go_big_quiet_step (first|(refine Calls.gro_of (C1.out _))|(refine Calls.gro_of (C2.out _))|(refine Calls.gro_of (C3.out _))|fail))
 refine wpQuiet_nil ?_
 rintro _ ⟨p,rfl⟩
 go_wp2_with fail
 go_ret
 exact⟨rfl,HB.out.trans ((gro_below w1 p).mono HB.out.size)⟩
end Go.Proofs.YtlckmjiioohcmaaGreatDoor
namespace Go.Proofs.YtlckmjiioohcmaaGreatDoor
open Go.RowKit Go.Shelf
attribute [local go_sem] Oper.semAt_some
def bestStep (s:Option Cho) (c:Cho):Option Cho:=match s with
 |none=>some c
 |some d=>if moreC c<moreC d then some c else some d
def bestC (l:List Cho):Option Cho:=l.foldl bestStep none
theorem bestC_snoc (l:List Cho) (c:Cho):bestC (l++[c])=bestStep (bestC l) c:=by simp[bestC]
def noCho:Cho:=⟨⟨0,0,0⟩,0,0⟩
theorem bestC_mem:∀{l:List Cho} {c:Cho},bestC l=some c→c∈l:=by
 intro l
 induction h:l.length generalizing l with
 |zero=>intro c hc;rw[List.eq_nil_of_length_eq_zero h] at hc;cases hc
 |succ n ih=>
  intro c hc
  have hne:l≠[]:=by intro e;rw[e] at h;simp at h
  obtain⟨a,x,rfl⟩:∃a x,l=a++[x]:=⟨l.dropLast,l.getLast hne,(List.dropLast_concat_getLast hne).symm⟩
  rw[bestC_snoc] at hc
  have ha:= @ih a (by simpa using h)
  unfold bestStep at hc
  split at hc
  ·injection hc with hc;simp[hc]
  ·rename_i d hd
   split at hc
   ·injection hc with hc;simp[hc]
   ·injection hc with hc;subst hc;exact List.mem_append_left _ (ha hd)
theorem ko_drew (W:World):KeepsOthers W W.drew:=⟨Nat.le_refl _,fun _ _ h _=>h⟩
set_option maxHeartbeats 4000000 in
set_option maxRecDepth 100000 in
theorem best_any (A:Option Addr) (c:Nat) (rs:List Ru) (m:Int) (w:World) (hs:Sl ruR w (.slice A rs.length c) rs) (hm:1≤m∧m≤8):
 Calls Tryz.prog 175 #[.slice A rs.length c,.int .i64 m] w fun e w'=>e=.returned (.tuple #[.agg (choCells ((bestC (chos rs m)).getD noCho)),.bool (bestC (chos rs m)).isSome])∧Below w.heap.size w w':=by
 refine(callsIn_wide (n:=6)).1 ?_
 refine callsIn_of_wp_marks Tryz.func175 rfl trivial ?_ rfl
 simp only[Tryz.ntmps175,List.size_toArray,List.length_cons,List.length_nil,Nat.reduceAdd,Nat.reduceSub,Array.replicate_succ,Array.replicate_zero,List.push_toArray,List.append_toArray,List.nil_append,List.cons_append]
 gi_wp2
 refine⟨trivial, ?_⟩
 refine(choices_in _ _ trivial rfl _ _ _ _ _).mono ?_
 rintro e w3 ⟨rfl,rfl⟩
 gi_wp2
 obtain⟨W0,hW0⟩:∃W0,W0=((((w.alloc (.cells #[.int .i64 0,.int .i64 0,.int .i64 0,.int .i64 0,.int .i64 0] 208)).alloc (.cells #[.bool false] 4)).alloc (.cells #[.func (.func 194) #[] #[]] 227)).alloc (.cells #[.slice A rs.length c] 211)).alloc (.cells #[.int .i64 m] 3):=⟨_,rfl⟩
 have bX:BoxN W0 w.heap.size 208 #[.int .i64 0,.int .i64 0,.int .i64 0,.int .i64 0,.int .i64 0]:=by
  rw[hW0];exact((((BoxN.new w _ _).alloc _).alloc _).alloc _).alloc _
 have bY:BoxN W0 (w.heap.size+1) 4 #[.bool false]:=by
  rw[hW0];have h:=BoxN.new (w.alloc (.cells #[.int .i64 0,.int .i64 0,.int .i64 0,.int .i64 0,.int .i64 0] 208)) 4 #[.bool false];rw[World.size_alloc] at h;exact((h.alloc _).alloc _).alloc _
 have bZ:BoxN W0 (w.heap.size+1+1) 227 #[.func (.func 194) #[] #[]]:=by
  rw[hW0];have h:=BoxN.new ((w.alloc (.cells #[.int .i64 0,.int .i64 0,.int .i64 0,.int .i64 0,.int .i64 0] 208)).alloc (.cells #[.bool false] 4)) 227 #[.func (.func 194) #[] #[]];simp only[World.size_alloc] at h;exact(h.alloc _).alloc _
 have bL:BoxN W0 (w.heap.size+1+1+1) 211 #[.slice A rs.length c]:=by
  rw[hW0];have h:=BoxN.new (((w.alloc (.cells #[.int .i64 0,.int .i64 0,.int .i64 0,.int .i64 0,.int .i64 0] 208)).alloc (.cells #[.bool false] 4)).alloc (.cells #[.func (.func 194) #[] #[]] 227)) 211 #[.slice A rs.length c];simp only[World.size_alloc] at h;exact h.alloc _
 have bN:BoxN W0 (w.heap.size+1+1+1+1) 3 #[.int .i64 m]:=by
  rw[hW0];have h:=BoxN.new ((((w.alloc (.cells #[.int .i64 0,.int .i64 0,.int .i64 0,.int .i64 0,.int .i64 0] 208)).alloc (.cells #[.bool false] 4)).alloc (.cells #[.func (.func 194) #[] #[]] 227)).alloc (.cells #[.slice A rs.length c] 211)) 3 #[.int .i64 m];simp only[World.size_alloc] at h;exact h
 have hb0:Below w.heap.size w W0:=by rw[hW0];exact bal (bal (bal (bal (ba _ _))))
 rw[←hW0]
 clear hW0
 have hZ:w.heap.size≤W0.heap.size:=hb0.size
 have zN:=bN.lt
 refine wpIn_rangeFunc_ownH rfl (by decide) (gf:=207) (lb:=#[.pointer (some ⟨w.heap.size+1+1+1,0,none⟩),.pointer (some ⟨w.heap.size+1+1+1+1,0,none⟩)]) rfl trivial (enters_of Tryz.func207 (by kernel_rfl) rfl)
  (encs:=choEnc) (Kp:=fun a b=>Below w.heap.size a b∧KeepX w.heap.size (w.heap.size+1) a b) (S:=fun ys=>ys=chos rs m) (Sp:=fun pre=>pre<+:chos rs m) (N:=(chos rs m).length) (w0:=W0)
  (fun l J Jx W hW hJ _ hY h0=>choices1_in _ _ trivial rfl (by decide) l (w.heap.size+1+1+1) (w.heap.size+1+1+1+1) w.heap.size (w.heap.size+1) w A c rs m hs hm J Jx W hJ (by have:=hW.size;omega) (by have:=hW.size;omega) (by omega) (by omega) hY (hb0.trans (hW.mono hZ)) (bL.later hW) (bN.later hW) h0)
  (fun h k=>⟨h.1.trans k.1,h.2.trans k.2⟩) (fun W l o o' hl h1 h2 h3=>⟨belowK_b hZ W l o o' hl h1 h2 h3,KeepX.putObj _ _ W l o o' h1 h2⟩) (Below.refl _ _) (fun _=>rfl)
  (fun pre W=>((BoxN W w.heap.size 208 (choCells ((bestC pre).getD noCho))∧BoxN W (w.heap.size+1) 4 #[.bool (bestC pre).isSome])∧BoxN W (w.heap.size+1+1) 227 #[.func (.func 194) #[] #[]])∧Below w.heap.size w W)
  (fun _ _ _=>False)
  (OwnFrom.and (OwnFrom.and (OwnFrom.and (_root_.Go.Own.from (boxN_own _ _ (fun pre=>choCells ((bestC pre).getD noCho))) _) (_root_.Go.Own.from (boxN_own _ _ (fun pre=>#[.bool (bestC pre).isSome])) _)) (_root_.Go.Own.from (boxN_own _ _ _) _)) (ownFrom_below (Nat.le_refl _) hZ))
  (fun _ _ _ _ _ hs _ _=>hs)
  ⟨⟨⟨bX,bY⟩,bZ⟩,hb0⟩
  (fun y a' W=> ∃Bx,w.heap.size+1+1<Bx∧BoxN W Bx 208 (choCells y)∧a'={tmps:=#[.slice A rs.length c,.int .i64 m,undef,undef,.pointer (some ⟨w.heap.size,0,none⟩),.pointer (some ⟨w.heap.size+1,0,none⟩),.pointer (some ⟨w.heap.size+1+1,0,none⟩),.pointer (some ⟨Bx,0,none⟩),.slice A rs.length c,.int .i64 m,.func (.func 207) #[] #[.pointer (some ⟨w.heap.size+1+1+1,0,none⟩),.pointer (some ⟨w.heap.size+1+1+1+1,0,none⟩)],.agg #[.int .i64 y.run.row,.int .i64 y.run.first,.int .i64 y.run.many,.int .i64 y.before,.int .i64 y.after],undef,undef,undef,undef,undef,undef,undef,undef,undef,undef,undef,undef,undef,undef],defers:=[]})
  (fun y a' _ X Y row hs hg hr=>by obtain⟨Bx,h1,h2,h3⟩:=hs;exact⟨Bx,h1,boxN_own Bx 208 (fun(_:Unit)=>choCells y) () X Y row h2 hg (fun r e=>(hr r e).2),h3⟩)
  ?assign ?body ?done ?stop
 case assign=>
  rintro l pre y W K ⟨⟨⟨bX,bY⟩,bZ⟩,hB1⟩ hK
  simp only[choEnc]
  gi_wp2
  exact hK _ _ ((KeepsOthers.alloc _ _).from _) ⟨(Below.refl _ W).alloc hB1.size _,KeepX.of _ _ (ba _ _)⟩ ⟨⟨⟨bX.alloc _,bY.alloc _⟩,bZ.alloc _⟩,hB1.alloc hB1.size _⟩ ⟨W.heap.size,bZ.lt,BoxN.new W 208 _,rfl⟩
 case body=>
  rintro l pre y a' W hl _ ⟨⟨⟨bX,bY⟩,bZ⟩,hB1⟩ ⟨Bx,hBx,bC,rfl⟩ hlt
  have HS:=Lib.hid (bestC_snoc pre y)
  generalize bestC pre=acc at bX bY HS
  have y0:=bY.cell 0 (.bool acc.isSome) rfl
  have zX:=bX.lt
  have zY:=bY.lt
  have hZW:w.heap.size≤W.heap.size:=hB1.size
  cases acc with
  |none=>
   have HS2:=Lib.hid (show bestC (pre++[y])=some y by rw[HS.out];rfl)
   have gY:=gro_cell (show W.cell? ⟨w.heap.size+1,0,none⟩=some (.bool false) from y0)
   gi_wp2
   refine wpIn_region_gro_round (by kernel_rfl) (by kernel_rfl) (by kernel_rfl) ?_
   repeat(go_big_quiet_step (fail))
   refine wpQuiet_nil ?_
   rintro _ ⟨p,rfl⟩
   have hg:=gro_below W p
   have HG:=Lib.hid (show KeepsOthers W (gro W p) from⟨hg.size,fun k o hk _=>(hg.block k (Array.getElem?_eq_some_iff.1 hk).1).trans hk⟩)
   have bX5:=bX.later hg
   have bY5:=bY.later hg
   have bZ5:=bZ.later hg
   have bC5:=bC.later hg
   have hB5:=hB1.trans (hg.mono hB1.size)
   have HGB:=Lib.hid hg
   clear bX bY bZ bC y0 gY hB1 hg
   generalize gro W p=W5 at HG HGB bX5 bY5 bZ5 bC5 hB5⊢
   obtain⟨c0,-,c1,-,c2,-,c3,-,c4,-⟩:=bC5.x5
   obtain⟨d0,f0,d1,f1,d2,f2,d3,f3,d4,f4,-⟩:=bX5.x5
   have e0:=bY5.cell 0 (.bool false) rfl
   have g0:=bY5.frozen 0
   have zX:=bX5.lt
   have zY:=bY5.lt
   have zC:=bC5.lt
   gi_wp2
   have hg1:=grownBy_putAt [.int .i64 y.run.row,.int .i64 y.run.first,.int .i64 y.run.many,.int .i64 y.before,.int .i64 y.after] W5 w.heap.size 0
   simp only[putAt,Nat.zero_add,Nat.reduceAdd] at hg1
   have hg2:=grownBy_set (((((W5.setCell ⟨w.heap.size,0,none⟩ (.int .i64 y.run.row)).setCell ⟨w.heap.size,1,none⟩ (.int .i64 y.run.first)).setCell ⟨w.heap.size,2,none⟩ (.int .i64 y.run.many)).setCell ⟨w.heap.size,3,none⟩ (.int .i64 y.before)).setCell ⟨w.heap.size,4,none⟩ (.int .i64 y.after)) (w.heap.size+1) 0 (.bool true)
   refine⟨(HG.out.trans (((((((KeepsOthers.setCell _ _ _).trans (KeepsOthers.setCell _ _ _)).trans (KeepsOthers.setCell _ _ _)).trans (KeepsOthers.setCell _ _ _)).trans (KeepsOthers.setCell _ _ _)).trans (KeepsOthers.setCell _ _ _)))).from _,⟨?_, ?_⟩,⟨⟨?_, ?_⟩, ?_⟩, ?_⟩
   ·exact((HGB.out.mono hZW).grown hg1 (by omega) (fun j hj=>by injection hj with hj;omega)).grown hg2 (Nat.le_trans (by omega) hg1.size) (fun j hj=>by injection hj with hj;omega)
   ·exact((KeepX.of _ _ HGB.out).trans (KeepX.grown hg1 (.inl rfl))).trans (KeepX.grown hg2 (.inr rfl))
   ·rw[HS2.out]
    have h5:BoxN (((((W5.setCell ⟨w.heap.size,0,none⟩ (.int .i64 y.run.row)).setCell ⟨w.heap.size,1,none⟩ (.int .i64 y.run.first)).setCell ⟨w.heap.size,2,none⟩ (.int .i64 y.run.many)).setCell ⟨w.heap.size,3,none⟩ (.int .i64 y.before)).setCell ⟨w.heap.size,4,none⟩ (.int .i64 y.after)) w.heap.size 208 (choCells y):=by
     have h:=((((bX5.set 0 (.int .i64 y.run.row)).set 1 (.int .i64 y.run.first)).set 2 (.int .i64 y.run.many)).set 3 (.int .i64 y.before)).set 4 (.int .i64 y.after)
     simpa[choCells] using h
    exact h5.kept hg2 (fun e=>by injection e with e;omega)
   ·rw[HS2.out]
    have h6:=(bY5.kept hg1 (fun e=>by injection e with e;omega)).set 0 (.bool true)
    simpa using h6
   ·exact(bZ5.kept hg1 (fun e=>by injection e with e;omega)).kept hg2 (fun e=>by injection e with e;omega)
   ·exact(hB5.grown hg1 hB5.size (fun j hj=>by injection hj with hj;omega)).grown hg2 (Nat.le_trans hB5.size hg1.size) (fun j hj=>by injection hj with hj;omega)
  |some d=>
   have C1:=Lib.hid (fun X=>best1_any y X)
   have C2:=Lib.hid (fun X=>best1_any d X)
   have gY:=gro_cell (show W.cell? ⟨w.heap.size+1,0,none⟩=some (.bool true) from y0)
   have gZ:=gro_cell (bZ.cell 0 (.func (.func 194) #[] #[]) rfl)
   have q0:=gro_cell (bC.cell 0 (.int .i64 y.run.row) rfl)
   have q1:=gro_cell (bC.cell 1 (.int .i64 y.run.first) rfl)
   have q2:=gro_cell (bC.cell 2 (.int .i64 y.run.many) rfl)
   have q3:=gro_cell (bC.cell 3 (.int .i64 y.before) rfl)
   have q4:=gro_cell (bC.cell 4 (.int .i64 y.after) rfl)
   have r0:=gro_cell (bX.cell 0 (.int .i64 d.run.row) rfl)
   have r1:=gro_cell (bX.cell 1 (.int .i64 d.run.first) rfl)
   have r2:=gro_cell (bX.cell 2 (.int .i64 d.run.many) rfl)
   have r3:=gro_cell (bX.cell 3 (.int .i64 d.before) rfl)
   have r4:=gro_cell (bX.cell 4 (.int .i64 d.after) rfl)
   unfold choCells at C1 C2
   by_cases hlt2:moreC y<moreC d
   ·have HS2:=Lib.hid (show bestC (pre++[y])=some y by rw[HS.out];simp[bestStep,hlt2])
    have tm:decide (moreC y<moreC d)=true:=decide_eq_true hlt2
    clear hlt2
    generalize moreC y=my at*
    generalize moreC d=md at*
    gi_wp2
    refine wpIn_region_gro_round (by kernel_rfl) (by kernel_rfl) (by kernel_rfl) ?_
    repeat(go_big_quiet_step (first|(with_reducible (refine Calls.gro_of (C1.out _)))|(with_reducible (refine Calls.gro_of (C2.out _)))|fail))
    refine wpQuiet_nil ?_
    rintro _ ⟨p,rfl⟩
    have hg:=gro_below W p
    have HG:=Lib.hid (show KeepsOthers W (gro W p) from⟨hg.size,fun k o hk _=>(hg.block k (Array.getElem?_eq_some_iff.1 hk).1).trans hk⟩)
    have bX5:=bX.later hg
    have bY5:=bY.later hg
    have bZ5:=bZ.later hg
    have bC5:=bC.later hg
    have hB5:=hB1.trans (hg.mono hB1.size)
    have HGB:=Lib.hid hg
    clear bX bY bZ bC y0 gY hB1 hg gZ q0 q1 q2 q3 q4 r0 r1 r2 r3 r4 C1 C2
    generalize gro W p=W5 at HG HGB bX5 bY5 bZ5 bC5 hB5⊢
    obtain⟨c0,-,c1,-,c2,-,c3,-,c4,-⟩:=bC5.x5
    obtain⟨d0,f0,d1,f1,d2,f2,d3,f3,d4,f4,-⟩:=bX5.x5
    have e0:=bY5.cell 0 (.bool true) rfl
    have g0:=bY5.frozen 0
    have zX:=bX5.lt
    have zY:=bY5.lt
    have zC:=bC5.lt
    gi_wp2
    have hg1:=grownBy_putAt [.int .i64 y.run.row,.int .i64 y.run.first,.int .i64 y.run.many,.int .i64 y.before,.int .i64 y.after] W5 w.heap.size 0
    simp only[putAt,Nat.zero_add,Nat.reduceAdd] at hg1
    have hg2:=grownBy_set (((((W5.setCell ⟨w.heap.size,0,none⟩ (.int .i64 y.run.row)).setCell ⟨w.heap.size,1,none⟩ (.int .i64 y.run.first)).setCell ⟨w.heap.size,2,none⟩ (.int .i64 y.run.many)).setCell ⟨w.heap.size,3,none⟩ (.int .i64 y.before)).setCell ⟨w.heap.size,4,none⟩ (.int .i64 y.after)) (w.heap.size+1) 0 (.bool true)
    refine⟨(HG.out.trans (((((((KeepsOthers.setCell _ _ _).trans (KeepsOthers.setCell _ _ _)).trans (KeepsOthers.setCell _ _ _)).trans (KeepsOthers.setCell _ _ _)).trans (KeepsOthers.setCell _ _ _)).trans (KeepsOthers.setCell _ _ _)))).from _,⟨?_, ?_⟩,⟨⟨?_, ?_⟩, ?_⟩, ?_⟩
    ·exact((HGB.out.mono hZW).grown hg1 (by omega) (fun j hj=>by injection hj with hj;omega)).grown hg2 (Nat.le_trans (by omega) hg1.size) (fun j hj=>by injection hj with hj;omega)
    ·exact((KeepX.of _ _ HGB.out).trans (KeepX.grown hg1 (.inl rfl))).trans (KeepX.grown hg2 (.inr rfl))
    ·rw[HS2.out]
     have h5:BoxN (((((W5.setCell ⟨w.heap.size,0,none⟩ (.int .i64 y.run.row)).setCell ⟨w.heap.size,1,none⟩ (.int .i64 y.run.first)).setCell ⟨w.heap.size,2,none⟩ (.int .i64 y.run.many)).setCell ⟨w.heap.size,3,none⟩ (.int .i64 y.before)).setCell ⟨w.heap.size,4,none⟩ (.int .i64 y.after)) w.heap.size 208 (choCells y):=by
      have h:=((((bX5.set 0 (.int .i64 y.run.row)).set 1 (.int .i64 y.run.first)).set 2 (.int .i64 y.run.many)).set 3 (.int .i64 y.before)).set 4 (.int .i64 y.after)
      simpa[choCells] using h
     exact h5.kept hg2 (fun e=>by injection e with e;omega)
    ·rw[HS2.out]
     have h6:=(bY5.kept hg1 (fun e=>by injection e with e;omega)).set 0 (.bool true)
     simpa using h6
    ·exact(bZ5.kept hg1 (fun e=>by injection e with e;omega)).kept hg2 (fun e=>by injection e with e;omega)
    ·exact(hB5.grown hg1 hB5.size (fun j hj=>by injection hj with hj;omega)).grown hg2 (Nat.le_trans hB5.size hg1.size) (fun j hj=>by injection hj with hj;omega)
   ·have HS2:=Lib.hid (show bestC (pre++[y])=some d by rw[HS.out];simp[bestStep,hlt2])
    have tm:decide (moreC y<moreC d)=false:=decide_eq_false hlt2
    clear hlt2
    generalize moreC y=my at*
    generalize moreC d=md at*
    gi_wp2
    refine wpIn_region_gro_round (by kernel_rfl) (by kernel_rfl) (by kernel_rfl) ?_
    repeat(go_big_quiet_step (first|(with_reducible (refine Calls.gro_of (C1.out _)))|(with_reducible (refine Calls.gro_of (C2.out _)))|fail))
    refine wpQuiet_nil ?_
    rintro _ ⟨p,rfl⟩
    have hg:=gro_below W p
    have HG:=Lib.hid (show KeepsOthers W (gro W p) from⟨hg.size,fun k o hk _=>(hg.block k (Array.getElem?_eq_some_iff.1 hk).1).trans hk⟩)
    have bX5:=bX.later hg
    have bY5:=bY.later hg
    have bZ5:=bZ.later hg
    have bC5:=bC.later hg
    have hB5:=hB1.trans (hg.mono hB1.size)
    have HGB:=Lib.hid hg
    clear bX bY bZ bC y0 gY hB1 hg gZ q0 q1 q2 q3 q4 r0 r1 r2 r3 r4 C1 C2
    generalize gro W p=W5 at HG HGB bX5 bY5 bZ5 bC5 hB5⊢
    gi_wp2
    exact⟨HG.out.from _,⟨HGB.out.mono hZW,KeepX.of _ _ HGB.out⟩,⟨⟨by rw[HS2.out];exact bX5,by rw[HS2.out];exact bY5⟩,bZ5⟩,hB5⟩
 case done=>
  rintro D zs W hD rfl ⟨⟨⟨bX,bY⟩,bZ⟩,hB1⟩ hK
  generalize hy:(bestC (chos rs m)).getD noCho=y at bX
  generalize hbo:(bestC (chos rs m)).isSome=bo at bY
  replace hy:=Lib.hid hy
  replace hbo:=Lib.hid hbo
  obtain⟨d0,f0,d1,f1,d2,f2,d3,f3,d4,f4,-⟩:=bX.x5
  have e0:=bY.cell 0 (.bool bo) rfl
  have g0:=bY.frozen 0
  have zX:=bX.lt
  have zY:=bY.lt
  gi_wp2
  gi_region
  gi_wp2
  have b1:BoxN (((((W.setCell ⟨w.heap.size,0,none⟩ (.int .i64 y.run.row)).setCell ⟨w.heap.size,1,none⟩ (.int .i64 y.run.first)).setCell ⟨w.heap.size,2,none⟩ (.int .i64 y.run.many)).setCell ⟨w.heap.size,3,none⟩ (.int .i64 y.before)).setCell ⟨w.heap.size,4,none⟩ (.int .i64 y.after)) w.heap.size 208 (choCells y):=by
   have h:=((((bX.set 0 (.int .i64 y.run.row)).set 1 (.int .i64 y.run.first)).set 2 (.int .i64 y.run.many)).set 3 (.int .i64 y.before)).set 4 (.int .i64 y.after)
   simpa[choCells] using h
  have hg1:=grownBy_putAt [.int .i64 y.run.row,.int .i64 y.run.first,.int .i64 y.run.many,.int .i64 y.before,.int .i64 y.after] W w.heap.size 0
  simp only[putAt,Nat.zero_add,Nat.reduceAdd] at hg1
  have hg2:=grownBy_set (((((W.setCell ⟨w.heap.size,0,none⟩ (.int .i64 y.run.row)).setCell ⟨w.heap.size,1,none⟩ (.int .i64 y.run.first)).setCell ⟨w.heap.size,2,none⟩ (.int .i64 y.run.many)).setCell ⟨w.heap.size,3,none⟩ (.int .i64 y.before)).setCell ⟨w.heap.size,4,none⟩ (.int .i64 y.after)) (w.heap.size+1) 0 (.bool bo)
  have b2:=(b1.kept hg2 (fun e=>by injection e with e;omega)).later (bdd (Below.refl _ _))
  have b3:=((bY.kept hg1 (fun e=>by injection e with e;omega)).set 0 (.bool bo)).later (bdd (Below.refl _ _))
  have hKO:=(((((KeepsOthers.setCell W ⟨w.heap.size,0,none⟩ (.int .i64 y.run.row)).trans (KeepsOthers.setCell _ ⟨w.heap.size,1,none⟩ (.int .i64 y.run.first))).trans (KeepsOthers.setCell _ ⟨w.heap.size,2,none⟩ (.int .i64 y.run.many))).trans (KeepsOthers.setCell _ ⟨w.heap.size,3,none⟩ (.int .i64 y.before))).trans (KeepsOthers.setCell _ ⟨w.heap.size,4,none⟩ (.int .i64 y.after))).trans (KeepsOthers.setCell _ ⟨w.heap.size+1,0,none⟩ (.bool bo))
  have hK':=(hKO.trans (ko_drew _)).same D _ hK rfl
  have hB:=((hB1.grown hg1 hB1.size (fun j hj=>by injection hj with hj;omega)).grown hg2 (Nat.le_trans hB1.size hg1.size) (fun j hj=>by injection hj with hj;omega)).drew
  clear hKO hg1 hg2 b1 bX bY d0 d1 d2 d3 d4 f0 f1 f2 f3 f4 e0 g0 hK hB1
  generalize((((((W.setCell ⟨w.heap.size,0,none⟩ (.int .i64 y.run.row)).setCell ⟨w.heap.size,1,none⟩ (.int .i64 y.run.first)).setCell ⟨w.heap.size,2,none⟩ (.int .i64 y.run.many)).setCell ⟨w.heap.size,3,none⟩ (.int .i64 y.before)).setCell ⟨w.heap.size,4,none⟩ (.int .i64 y.after)).setCell ⟨w.heap.size+1,0,none⟩ (.bool bo)).drew=WW at b2 b3 hK' hB⊢
  refine⟨by simp,.inl ⟨_,_,rfl,run_takeDeferred hK', ?_⟩⟩
  have g0:=cell_kept (b2.cell 0 (.int .i64 y.run.row) rfl) (grownBy_putObj' _ D (.deferred none)) (fun r e=>by cases e;exact⟨_,hK',rfl⟩)
  have g1:=cell_kept (b2.cell 1 (.int .i64 y.run.first) rfl) (grownBy_putObj' _ D (.deferred none)) (fun r e=>by cases e;exact⟨_,hK',rfl⟩)
  have g2:=cell_kept (b2.cell 2 (.int .i64 y.run.many) rfl) (grownBy_putObj' _ D (.deferred none)) (fun r e=>by cases e;exact⟨_,hK',rfl⟩)
  have g3:=cell_kept (b2.cell 3 (.int .i64 y.before) rfl) (grownBy_putObj' _ D (.deferred none)) (fun r e=>by cases e;exact⟨_,hK',rfl⟩)
  have g4:=cell_kept (b2.cell 4 (.int .i64 y.after) rfl) (grownBy_putObj' _ D (.deferred none)) (fun r e=>by cases e;exact⟨_,hK',rfl⟩)
  have g5:=cell_kept (b3.cell 0 (.bool bo) rfl) (grownBy_putObj' _ D (.deferred none)) (fun r e=>by cases e;exact⟨_,hK',rfl⟩)
  exact⟨.tuple #[.agg #[.int .i64 y.run.row,.int .i64 y.run.first,.int .i64 y.run.many,.int .i64 y.before,.int .i64 y.after],.bool bo],by simp[results,Tryz.results175,go_sem,g0,g1,g2,g3,g4,g5],by rw[hy.out,hbo.out];rfl,hB.trans (belowK_b (w:=w) (Nat.le_refl _) _ D _ _ (by omega) hK' rfl rfl)⟩
 case stop=>
  rintro D c pre W hD hpre hf
  exact hf.elim
end Go.Proofs.YtlckmjiioohcmaaGreatDoor
namespace Go.Proofs.YtlckmjiioohcmaaGreatDoor
open Go.RowKit
theorem mem_chos {rs:List Ru} {m:Int} {c:Cho} (h:c∈chos rs m):c.run∈rs∧∃k:Nat,c.before=k∧(k:Int)+m≤c.run.many∧c.after=c.run.many-m-k:=by
 unfold chos at h
 obtain⟨r,hr,hc⟩:=List.mem_flatMap.1 h
 unfold chosR at hc
 obtain⟨k,hk,rfl⟩:=List.mem_map.1 hc
 rw[List.mem_range] at hk
 unfold cnt at hk
 exact⟨hr,k,rfl,by simp only[choAt];omega,rfl⟩
theorem Sl.ruOk {w:World} {v:Value} {xs:List Ru} (h:Sl ruR w v xs) {r:Ru} (hr:r∈xs):RuOk r:=by
 obtain⟨k,hk,rfl⟩:=List.getElem_of_mem hr
 obtain⟨A,c,rfl,_,_,h'⟩:=h.open
 obtain⟨_,_,_,_,_,_,_,h⟩:=h'.atRu hk
 exact h
def adBestM (x:Ve) (fr:List Bool) (sec m:Int):Int×Int:=
 if adCheckM x fr.length sec≠0 then(0,adCheckM x fr.length sec) else if askedV m=false then(0,7)
 else match bestC (chos (runsM x fr sec.toNat) m) with
 |some c=>(c.run.first+c.before,0)
 |none=>(0,15)
set_option maxHeartbeats 4000000 in
set_option maxRecDepth 20000 in
theorem adBest_any (v:Value) (x:Ve) (F:Option Addr) (fc:Nat) (fr:List Bool) (sec m:Int) (w:World) (hv:IsVe w v x) (hF:Sl boR w (.slice F fr.length fc) fr):
 Calls Tryz.prog 129 #[v,.slice F fr.length fc,.int .i64 sec,.int .i64 m] w fun e w'=>e=.returned (.tuple #[.int .i64 (adBestM x fr sec m).1,.int .i64 (adBestM x fr sec m).2])∧Below w.heap.size w w':=by
 have C1:=Lib.hid (fun W (hb:Below w.heap.size w W)=>adCheck_any v x F fr.length fc sec W (by obtain⟨A,c,h1,h2,h3⟩:=hv;exact⟨A,c,h1,h2.up hb,h3⟩))
 have hE:=Lib.hid (show adBestM x fr sec m=if adCheckM x fr.length sec≠0 then(0,adCheckM x fr.length sec) else if askedV m=false then(0,7)
  else match bestC (chos (runsM x fr sec.toNat) m) with
  |some c=>(c.run.first+c.before,0)
  |none=>(0,15) from rfl)
 have hOK:=Lib.hid (show adCheckM x fr.length sec=0→(checkV x).2=0∧(fr.length:Int)=sum (allRows x)∧0≤sec∧sec<x.secs.length from fun h=>by
  unfold adCheckM at h
  split at h
  ·rename_i h1
   exact absurd h h1
  ·rename_i h1
   have h1:=Decidable.not_not.1 h1
   have hs:seatsV x=(sum (allRows x),0):=by
    unfold seatsV at h1⊢
    split at h1
    ·rename_i h2;exact absurd h1 h2
    ·rename_i h2;rw[if_neg h2]
   have hc:(checkV x).2=0:=by
    unfold seatsV at h1
    split at h1
    ·rename_i h2;exact absurd h1 h2
    ·rename_i h2;exact Decidable.not_not.1 h2
   rw[hs] at h
   simp only at h
   split at h
   ·cases h
   ·split at h
    ·cases h
    ·exact⟨hc,by omega,by omega,by omega⟩)
 generalize adBestM x fr sec m=M at hE⊢
 generalize adCheckM x fr.length sec=e at C1 hE hOK
 have HV:=Lib.hid hv
 have HF:=Lib.hid hF
 obtain⟨A,c,rfl,_,_,_,_⟩:=hv
 clear hF
 go_enter Tryz.func129,Tryz.ntmps129
 go_wp2_with fail
 refine(C1.out _ (ba _ _)).mono ?_
 rintro e1 w1 ⟨rfl,hb1⟩
 have P1:=Lib.hid ((BoxN.new w 24 #[.int .i64 x.shards,.int .i64 x.ttl,.int .i64 x.session,.slice A x.secs.length c]).later hb1)
 have HB:=Lib.hid (show Below w.heap.size w w1 from(ba w _).trans (hb1.mono (ba w _).size))
 clear hb1 C1
 by_cases h1:e=0
 case neg=>
  have t:(e !=0)=true:=by simpa using h1
  rw[if_pos h1] at hE
  go_wp2_with fail
  go_ret2
  exact⟨by rw[hE.out];rfl,HB.out⟩
 obtain⟨hc,hl,hs0,hs1⟩:=hOK.out h1
 subst h1
 rw[if_neg (by simp)] at hE
 obtain⟨sec,rfl⟩:∃n:Nat,sec=(n:Int):=⟨sec.toNat,by omega⟩
 simp only[Int.toNat_natCast] at hE
 have C2:=Lib.hid (fun W (hb:Below w.heap.size w W)=>runs_any _ x F fc fr sec W (by obtain⟨A',c',h1,h2,h3⟩:=HV.out;exact⟨A',c',h1,h2.up hb,h3⟩) (HF.out.up hb) hc hl (by omega))
 clear hc hl hOK
 cases ha:askedV m with
 |false=>
  have C3:=Lib.hid (fun X=>asked_any m X)
  rw[ha] at C3 hE
  rw[if_pos rfl] at hE
  clear ha
  go_wp2_with fail
  refine(C3.out _).mono ?_
  rintro e2 w2 ⟨rfl,rfl⟩
  go_wp2_with fail
  go_ret2
  exact⟨by rw[hE.out];rfl,HB.out⟩
 |true=>
  have C3:=Lib.hid (fun X=>asked_any m X)
  rw[ha] at C3 hE
  rw[if_neg (by simp)] at hE
  have hm:1≤m∧m≤8:=by unfold askedV at ha;simpa using ha
  clear ha
  have u0:=P1.out.cell 0 _ rfl
  have u1:=P1.out.cell 1 _ rfl
  have u2:=P1.out.cell 2 _ rfl
  have u3:=P1.out.cell 3 _ rfl
  have z1:=P1.out.lt
  go_wp2_with fail
  refine(C3.out _).mono ?_
  rintro e2 w2 ⟨rfl,hw2⟩
  obtain rfl:=hw2
  go_wp2_with fail
  refine(C2.out _ HB.out).mono ?_
  rintro e3 w3 ⟨A3,c3,rfl,hown,hb3⟩
  have C4:=Lib.hid (best_any A3 c3 (runsM x fr sec) m w3 hown.sl hm)
  have HB3:=Lib.hid (HB.out.trans (hb3.mono HB.out.size))
  have HBE:=Lib.hid (fun d=> @bestC_mem (chos (runsM x fr sec) m) d)
  have HRO:=Lib.hid (fun r=> @Sl.ruOk _ _ _ hown.sl r)
  have HCH:=Lib.hid (fun d=> @mem_chos (runsM x fr sec) m d)
  clear u0 u1 u2 u3 z1 hown hb3
  generalize runsM x fr sec=rs at*
  go_wp2_with fail
  refine C4.out.mono ?_
  rintro e4 w4 ⟨rfl,hb4⟩
  have HB4:=Lib.hid (HB3.out.trans (hb4.mono HB3.out.size))
  clear hb4 C4
  cases hbc:bestC (chos rs m) with
  |none=>
   rw[hbc] at hE
   simp only[Option.getD_none,Option.isSome_none]
   clear hbc
   unfold choCells
   go_wp2_with fail
   go_ret2
   exact⟨by rw[hE.out];rfl,bal HB4.out⟩
  |some d=>
   rw[hbc] at hE
   simp only[Option.getD_some,Option.isSome_some]
   obtain⟨hd1,k,hd2,hd3,_⟩:=HCH.out d (HBE.out d hbc)
   have hro:=HRO.out _ hd1
   have hb1:0≤d.run.first∧d.run.first≤1000000:=hro.2.1
   have hb2:0≤d.before∧d.before≤1000000:=by rw[hd2];have:=hro.2.2;omega
   clear hbc hd1 hd2 hd3 hro
   unfold choCells
   obtain⟨⟨r0,r1,r2⟩,db,da⟩:=d
   simp only at hE hb1 hb2⊢
   go_wp2_with fail
   go_ret2
   exact⟨by rw[hE.out];rfl,bal HB4.out⟩
end Go.Proofs.YtlckmjiioohcmaaGreatDoor
namespace Go.Proofs.YtlckmjiioohcmaaGreatDoor
open Go.RowKit
theorem runRow_in (fr:List Bool) (row:Int) (f n:Nat) (out:List Ru):∀k,k≤n+1→(∀r∈(runRow fr row f n out k).1,r∈out∨((f:Int)≤r.first∧r.first+r.many≤f+n))∧
 (f:Int)≤(runRow fr row f n out k).2.first∧(runRow fr row f n out k).2.first+(runRow fr row f n out k).2.many≤f+k
 |0,_=>⟨fun r hr=> .inl hr,by simp[runRow],by simp[runRow]⟩
 |k+1,hk=>by
  obtain⟨h1,h2,h3⟩:=runRow_in fr row f n out k (by omega)
  simp only[runRow,runStep]
  split
  ·exact⟨h1,h2,by simp;omega⟩
  ·refine⟨fun r hr=> ?_,by simp;omega,by simp;omega⟩
   dsimp only at hr
   split at hr
   ·rcases List.mem_append.1 hr with hr|hr
    ·exact h1 r hr
    ·rw[List.mem_singleton.1 hr]
     exact .inr ⟨h2,by omega⟩
   ·exact h1 r hr
theorem runsTo_in (fr:List Bool) (rows:List Int) (f:Nat) (hr:∀n,n∈rows→1≤n∧n≤64):∀k,k≤rows.length→∀r∈(runsTo fr rows f k).1,(f:Int)≤r.first∧r.first+r.many≤((runsTo fr rows f k).2:Int)
 |0,_,r,h=>by simp[runsTo] at h
 |k+1,hk,r,h=>by
  have ih:=runsTo_in fr rows f hr k (by omega)
  have h2:=(runsTo_ok fr rows f hr k (by omega)).2
  have h3:0≤sum (rows.take k):=sum_nonneg fun n hn=>by have:=hr n (List.mem_of_mem_take hn);omega
  have h4:=(runRow_in fr (k:Int) (runsTo fr rows f k).2 (rows.getD k 0).toNat (runsTo fr rows f k).1 ((rows.getD k 0).toNat+1) (Nat.le_refl _)).1
  simp only[runsTo] at h⊢
  rcases h4 r h with h5|h5
  ·have:=ih r h5
   exact⟨this.1,by rw[Int.natCast_add];omega⟩
  ·exact⟨by omega,by rw[Int.natCast_add];omega⟩
theorem adCheckM_ok {x:Ve} {n:Nat} {sec:Int} (h:adCheckM x n sec=0):(checkV x).2=0∧(n:Int)=sum (allRows x)∧0≤sec∧sec<x.secs.length:=by
 unfold adCheckM at h
 split at h
 ·rename_i h1
  exact absurd h h1
 ·rename_i h1
  have h1:=Decidable.not_not.1 h1
  have hs:seatsV x=(sum (allRows x),0):=by
   unfold seatsV at h1⊢
   split at h1
   ·rename_i h2;exact absurd h1 h2
   ·rename_i h2;rw[if_neg h2]
  have hc:(checkV x).2=0:=by
   unfold seatsV at h1
   split at h1
   ·rename_i h2;exact absurd h1 h2
   ·rename_i h2;exact Decidable.not_not.1 h2
  rw[hs] at h
  simp only at h
  split at h
  ·cases h
  ·split at h
   ·cases h
   ·exact⟨hc,by omega,by omega,by omega⟩
theorem rows_fit {x:Ve} (hc:(checkV x).2=0) {sec:Nat} (hs:sec<x.secs.length):0≤upTo x.secs sec∧upTo x.secs sec+sum x.secs[sec].rows≤sum (allRows x):=by
 obtain⟨hok,_⟩:=checkV_ok hc
 have hup:=upTo_bd (k:=sec) (by omega) fun j hj _=>hok.2 j hj
 have h1:upTo x.secs (sec+1)=upTo x.secs sec+sum x.secs[sec].rows:=upTo_succ hs
 have h2:allRows x=(x.secs.take (sec+1)).flatMap (·.rows)++(x.secs.drop (sec+1)).flatMap (·.rows):=by
  rw[←List.flatMap_append,List.take_append_drop];rfl
 have h3:0≤sum ((x.secs.drop (sec+1)).flatMap (·.rows)):=sum_nonneg fun n hn=>by
  obtain⟨s,hs',hn⟩:=List.mem_flatMap.1 hn
  obtain⟨j,hj,rfl⟩:=List.getElem_of_mem (List.mem_of_mem_drop hs')
  have:=(secE_ok (hok.2 j hj)).2.1 n hn
  omega
 rw[h2,sum_append]
 have h4:upTo x.secs (sec+1)=sum ((x.secs.take (sec+1)).flatMap (·.rows)):=rfl
 exact⟨hup.1,by omega⟩
theorem adBestM_ok {x:Ve} {fr:List Bool} {sec m:Int} (h:(adBestM x fr sec m).2=0):(1≤m∧m≤8)∧0≤(adBestM x fr sec m).1∧(adBestM x fr sec m).1+m≤fr.length:=by
 unfold adBestM at h⊢
 split at h
 ·rename_i h1;exact absurd h h1
 ·rename_i h1
  rw[if_neg h1]
  obtain⟨hc,hl,hs0,hs1⟩:=adCheckM_ok (Decidable.not_not.1 h1)
  split at h
  ·cases h
  ·rename_i h2
   rw[if_neg h2]
   have hm:1≤m∧m≤8:=by unfold askedV at h2;simpa using h2
   split at h
   ·rename_i c hb
    obtain⟨hd1,k,hd2,hd3,_⟩:=mem_chos (bestC_mem hb)
    obtain⟨sec,rfl⟩:∃n:Nat,sec=(n:Int):=⟨sec.toNat,by omega⟩
    simp only[Int.toNat_natCast] at hd1
    have hlt:sec<x.secs.length:=by omega
    obtain⟨hf1,hf2⟩:=rows_fit hc hlt
    have hse:=secE_ok ((checkV_ok hc).1.2 sec hlt)
    have hin:=runsTo_in fr x.secs[sec].rows (upTo x.secs sec).toNat hse.2.1 x.secs[sec].rows.length (Nat.le_refl _) c.run (by simpa[runsM,hlt] using hd1)
    have he:=(runsTo_ok fr x.secs[sec].rows (upTo x.secs sec).toNat hse.2.1 x.secs[sec].rows.length (Nat.le_refl _)).2
    rw[List.take_length] at he
    rw[hd2]
    exact⟨hm,by omega,by omega⟩
   ·cases h
def freeM (s:Md):List Bool:=s.seats.map fun x=>x.state==0
def holdsM (s:Md) (owner t:Int) (f:Nat):Nat→Md
 |0=>s
 |k+1=>setM (holdsM s owner t f k) (f+k) (sxHold (seatAt (holdsM s owner t f k) (f+k)) owner t).1
theorem holdsM_same (s:Md) (owner t:Int) (f:Nat):∀k,(holdsM s owner t f k).ve=s.ve∧(holdsM s owner t f k).now=s.now∧(holdsM s owner t f k).seats.length=s.seats.length∧(holdsM s owner t f k).qs=s.qs
 |0=>⟨rfl,rfl,rfl,rfl⟩
 |k+1=>by
  obtain⟨h1,h2,h3,h4⟩:=holdsM_same s owner t f k
  exact⟨h1,h2,by simp[holdsM,setM,h3],h4⟩
def blockM (s:Md) (op:MOp):Md×MRp:=
 if(adBestM s.ve (freeM s) op.section_ op.n).2≠0 then(s,{noRp with err:=(adBestM s.ve (freeM s) op.section_ op.n).2})
 else(holdsM s op.owner (untilM s s.ve.ttl) (adBestM s.ve (freeM s) op.section_ op.n).1.toNat op.n.toNat,{noRp with seat:=(adBestM s.ve (freeM s) op.section_ op.n).1,n:=op.n,deadline:=untilM s s.ve.ttl})
theorem infoBo:(Tryz.prog.info? 4).map (fun i=>(i.zero,i.size,i.bytes))=some (some (.bool false),1,1):=by kernel_rfl
theorem mk_bools (k:Nat) (hk:k≤1000000) (w:World):(Instr.makeSlice 138 (.int .i64 (k:Int)) (.int .i64 (k:Int))).run Tryz.prog w=.ok (.slice (some ⟨w.heap.size,0,none⟩) k k) (w.alloc (.cells (Array.replicate k (Value.bool false)) 4)):=by
 obtain⟨i,hi,hz,hs,hb⟩:=info_parts infoBo
 have h:=run_make (P:=Tryz.prog) w 138 4 i _ Tryz.underlying138 hi hz .i64 .i64 k k (by omega) (Int.le_refl _) (by rw[hb];omega) (by omega)
 rw[h,hs]
 simp only[Int.toNat_natCast,Nat.mul_one]
 have e:(madeCells #[Value.bool false] k)=Array.replicate k (Value.bool false):=by
  apply Array.ext'
  apply List.ext_getElem?
  intro i
  by_cases h:i<k<;>simp[madeCells,h,Nat.mod_one]
 rw[←e]
 rfl
theorem many_falses (w:World):∀k:Nat,boR.many w (List.replicate k (Value.bool false)) (List.replicate k false)
 |0=>by simp[Rep.many]
 |k+1=>⟨[.bool false],_,rfl,rfl,many_falses w k⟩
theorem own_falses (B:Nat) (w:World) (k:Nat) (hB:B≤w.heap.size) (hk:k≤1000000):Own boR 4 B (w.alloc (.cells (Array.replicate k (Value.bool false)) 4)) (.slice (some ⟨w.heap.size,0,none⟩) k k) (List.replicate k false):=by
 have h:=Own.lit (R:=boR) (e:=4) (B:=B) (w:=w) (g:=w.heap.size) (n:=k) (cells:=List.replicate k (Value.bool false)) (xs:=List.replicate k false) rfl hB (many_falses _ _) (by simp) hk
 rwa[List.toArray_replicate] at h
end Go.Proofs.YtlckmjiioohcmaaGreatDoor
namespace Go.Proofs.YtlckmjiioohcmaaGreatDoor
open Go.RowKit
set_option maxHeartbeats 4000000 in
set_option maxRecDepth 20000 in
theorem block_any {w0 W:World} {g a ac b:Nat} {V:Option Addr} {vc:Nat} {cs:List Value} {s:Md} {op:MOp} {seat:Int} (h:Off w0 W g a ac b V vc cs s op seat) (hlen:s.seats.length≤1000000):
 Calls Tryz.prog 97 #[.pointer (some ⟨g,0,none⟩)] W (OpPost w0 W g a ac b V vc op seat (blockM s op)):=by
 have hwb:=h.bw.size
 obtain⟨bg,ba',bb⟩:=h.bnd
 have hbn:Bd op.n:=h.bo.2.2.2.2.2.1
 have C1:=Lib.hid (fun X (hb:Below W.heap.size W X) F fc hF=>adBest_any _ s.ve F fc (freeM s) op.section_ op.n X ⟨V,vc,rfl,h.vs.up (h.bw.trans (hb.mono h.bw.size)),h.bv.1,h.bv.2.1,h.bv.2.2⟩ hF)
 have HM:=Lib.hid (show blockM s op=if(adBestM s.ve (freeM s) op.section_ op.n).2≠0 then(s,⟨(adBestM s.ve (freeM s) op.section_ op.n).2,0,0,0,noTk,0⟩)
  else(holdsM s op.owner (untilM s s.ve.ttl) (adBestM s.ve (freeM s) op.section_ op.n).1.toNat op.n.toNat,⟨0,(adBestM s.ve (freeM s) op.section_ op.n).1,op.n,untilM s s.ve.ttl,noTk,0⟩) from rfl)
 have HBK:=Lib.hid (@adBestM_ok s.ve (freeM s) op.section_ op.n)
 generalize adBestM s.ve (freeM s) op.section_ op.n=BB at C1 HM HBK
 obtain⟨b1,b2⟩:=BB
 simp only at C1 HM HBK
 generalize blockM s op=MM at HM⊢
 have H:=Lib.hid h
 have hmk:=mk_bools s.seats.length hlen
 clear h
 go_enter Tryz.func97,Tryz.ntmps97
 go_upto_region 1 with fail
 refine at_world (fun X=>Below W.heap.size W X∧BoxN X W.heap.size 49 #[.int .i64 0,.int .i64 0,.int .i64 0,.int .i64 0,.int .u32 0,.int .u32 0,.int .u64 0,.int .u64 0,.int .i64 0]) ⟨ba _ _,BoxN.new _ _ _⟩ fun w1 hw1=> ?_
 obtain⟨hb1,j1⟩:=hw1
 generalize hq:W.heap.size=q at j1
 have H1:=Lib.hid (H.out.up hb1)
 have J1:=Lib.hid j1
 have HB1:=Lib.hid hb1
 clear hb1 j1
 have u5:=H1.out.box.cell 5 (.slice (some ⟨a,0,none⟩) s.seats.length ac) rfl
 have zg:=H1.out.box.lt
 go_upto_region 2 with fail
 clear u5 zg hmk
 have HOB:=Lib.hid (own_falses q w1 s.seats.length (by have:=HB1.out.size;omega) hlen)
 have H2:=Lib.hid (H1.out.up (ba w1 (.cells (Array.replicate s.seats.length (Value.bool false)) 4)))
 have J2:=Lib.hid (J1.out.alloc (.cells (Array.replicate s.seats.length (Value.bool false)) 4))
 have HB2:=Lib.hid (bal (o:=.cells (Array.replicate s.seats.length (Value.bool false)) 4) HB1.out)
 have hfb:w1.heap.size≠q:=by have:=J1.out.lt;omega
 clear H1 J1 HB1
 generalize w1.heap.size=fb at HOB hfb⊢
 generalize w1.alloc (.cells (Array.replicate s.seats.length (Value.bool false)) 4)=w2 at HOB H2 J2 HB2⊢
 have u5:=H2.out.box.cell 5 (.slice (some ⟨a,0,none⟩) s.seats.length ac) rfl
 have zg:=H2.out.box.lt
 go_wp2_with fail
 clear u5 zg
 have hfl:(freeM s).length=s.seats.length:=by simp[freeM]
 simp only[hfl] at C1 HBK
 go_loopw [23] (fun i wr=> ∃k:Nat,i=.int .i64 (k:Int)∧k≤s.seats.length∧Hid (Own boR 4 q wr (.slice (some ⟨fb,0,none⟩) s.seats.length s.seats.length) ((freeM s).take k++List.replicate (s.seats.length-k) false)∧Below W.heap.size W wr∧BoxN wr q 49 #[.int .i64 0,.int .i64 0,.int .i64 0,.int .i64 0,.int .u32 0,.int .u32 0,.int .u64 0,.int .u64 0,.int .i64 0])) (fun i _=>s.seats.length-(intOf i).toNat)
 case atStart=>exact⟨0,rfl,Nat.zero_le _,by simpa using HOB.out,HB2.out,J2.out⟩
 case round=>
  obtain⟨k,rfl,hk,hr⟩:=hrel
  have HR:=Lib.hid hr
  clear hr
  by_cases hlt:k<s.seats.length
  ·have ht:decide ((k:Int)<(s.seats.length:Int))=true:=by simp;omega
   have H3:=Lib.hid (H.out.up HR.out.2.1)
   have J3:=Lib.hid HR.out.2.2
   obtain⟨ds,⟨rfl,_⟩,hd,hf⟩:=H3.out.ss.cell_ hlt
   have d0:=hd 0 _ rfl
   have d1:=hd 1 _ rfl
   have d2:=hd 2 _ rfl
   have d3:=hd 3 _ rfl
   have d4:=hd 4 _ rfl
   simp only[sxR,Nat.add_zero] at d0 d1 d2 d3 d4
   have za:=H3.out.aB.2
   have hk0:(0:Int)≤(k:Int):=by omega
   have hk1:(k:Int)<(s.seats.length:Int):=by omega
   have nk:IntKind.i64.wrap ((k:Int)+1)=(k:Int)+1:=IntWalk.i64_in _ (by omega)
   have hmk:k<(freeM s).length:=by omega
   have HX:=Lib.hid (show((freeM s).take k++List.replicate (s.seats.length-k) false).set k (s.seats[k].state==0)=(freeM s).take (k+1)++List.replicate (s.seats.length-(k+1)) false by
    rw[List.take_succ_eq_append_getElem hmk,show s.seats.length-k=(s.seats.length-(k+1))+1 by omega,List.replicate_succ,List.set_append_right _ _ (by simp;omega)]
    have e1:k-((freeM s).take k).length=0:=by simp;omega
    rw[e1,List.set_cons_zero,List.append_assoc]
    simp[freeM])
   have hll:((freeM s).take k++List.replicate (s.seats.length-k) false).length=s.seats.length:=by simp;omega
   obtain⟨fds,rfl,hfd,hff⟩:=HR.out.1.cell_ (k:=k) (by omega)
   have e0:=hfd 0 _ rfl
   have ef0:=hff k
   have ez:=(HR.out.1.block).2.1
   simp only[boR,Nat.mul_one,Nat.add_zero] at e0
   have HPUT:=Lib.hid (HR.out.1.put (k:=k) (by omega) (x:=(s.seats[k].state==0)) (cs:=[.bool (s.seats[k].state==0)]) rfl (fun _ _ _ _ h=>h))
   clear hd hf hfd hff hmk
   generalize s.seats[k]=x at*
   obtain⟨st,ow,ti,se,ep⟩:=x
   simp only at d0 d1 d2 d3 d4 HX HPUT
   go_wp2_with fail
   simp only[putAt,boR,Nat.mul_one] at HPUT
   rw[HX.out] at HPUT
   have hgB:fb≥q:=(HR.out.1.block).1
   have hbx:=(HR.out.2.1.grown HPUT.out.2 HR.out.2.1.size (fun z hz=>by injection hz with hz;omega))
   refine⟨⟨k+1,by go_num,by omega,HPUT.out.1.up (ba _ _),bal hbx,(J3.out.other hfb.symm _).alloc _⟩,by simp[intOf];omega⟩
  ·obtain rfl:k=s.seats.length:=by omega
   have ht:decide ((s.seats.length:Int)<(s.seats.length:Int))=false:=by simp
   rw[Nat.sub_self,List.replicate_zero,List.append_nil,List.take_of_length_le (by omega)] at HR
   have H4:=Lib.hid (H.out.up HR.out.2.1)
   have J4:=Lib.hid HR.out.2.2
   have HB4:=Lib.hid HR.out.2.1
   have HS4:=Lib.hid (show Sl boR wr (.slice (some ⟨fb,0,none⟩) s.seats.length s.seats.length) (freeM s) from HR.out.1.sl)
   clear HR HOB H2 J2 HB2
   go_upto_region 7 with fail
   have g0:=gro_cell (H4.out.box.cell 0 (.int .i64 s.ve.shards) rfl)
   have g1:=gro_cell (H4.out.box.cell 1 (.int .i64 s.ve.ttl) rfl)
   have g2:=gro_cell (H4.out.box.cell 2 (.int .i64 s.ve.session) rfl)
   have g3:=gro_cell (H4.out.box.cell 3 (.slice V s.ve.secs.length vc) rfl)
   have g11:=gro_cell (H4.out.box.cell 11 (.int .i64 op.section_) rfl)
   have g12:=gro_cell (H4.out.box.cell 12 (.int .i64 op.n) rfl)
   refine wp_region_gro (by kernel_rfl) (by kernel_rfl) ?_
   repeat(go_big_quiet_step (first|(go_at_call 129;exact Calls.gro_of (C1.out _ (HB4.out.trans ((gro_below _ _).mono HB4.out.size)) _ _ (HS4.out.up (gro_below _ _))))|fail))
   refine wpQuiet_nil ?_
   rintro _ ⟨p,rfl⟩
   have hg:=gro_below wr p
   have H5:=Lib.hid (H4.out.up hg)
   have J5:=Lib.hid (J4.out.later hg)
   have HO5:=Lib.hid (Only3.of g a b (HB4.out.trans (hg.mono HB4.out.size)))
   have hw5:W.heap.size≤(gro wr p).heap.size:=HO5.out.size
   clear g0 g1 g2 g3 g11 g12 hg H4 J4 HB4 HS4 C1
   generalize gro wr p=w5 at H5 J5 HO5 hw5⊢
   obtain⟨dc0,df0,dc1,df1,dc2,df2,dc3,df3,dc4,df4,dc5,df5,dc6,df6,dc7,df7,dc8,df8,dz⟩:=J5.out.x9
   by_cases he:b2=0
   case neg=>
    have t:(b2 !=0)=true:=by simpa using he
    rw[if_pos he] at HM
    clear he
    go_wp2_with fail
    have b':=J5.out.set9 (.int .i64 b2) (.int .i64 0) (.int .i64 0) (.int .i64 0) (.int .u32 0) (.int .u32 0) (.int .u64 0) (.int .u64 0) (.int .i64 0)
    have hg:=grownBy_putAt [.int .i64 b2,.int .i64 0,.int .i64 0,.int .i64 0,.int .u32 0,.int .u32 0,.int .u64 0,.int .u64 0,.int .i64 0] w5 q 0
    simp only[putAt,Nat.zero_add,Nat.reduceAdd] at hg
    have hall:=And.intro b' (And.intro (H5.out.new hg (Tag.of_box J5.out) (by omega) (by decide) (by decide) (by decide) (by decide)) (HO5.out.new hg (by omega)))
    clear b' hg dc0 dc1 dc2 dc3 dc4 dc5 dc6 dc7 dc8 df0 df1 df2 df3 df4 df5 df6 df7 df8 dz
    refine at_world (fun X=>BoxN X q 49 #[.int .i64 b2,.int .i64 0,.int .i64 0,.int .i64 0,.int .u32 0,.int .u32 0,.int .u64 0,.int .u64 0,.int .i64 0]∧(∃cs',Off w0 X g a ac b V vc cs' s op seat)∧Only3 g a b W X) ⟨hall.1,⟨_,hall.2.1⟩,hall.2.2⟩ fun Y ⟨b',hO,hX⟩=> ?_
    clear hall
    have gg:=b'.x9
    exact bodyPost_ret (v:=.agg #[.int .i64 b2,.int .i64 0,.int .i64 0,.int .i64 0,.int .u32 0,.int .u32 0,.int .u64 0,.int .u64 0,.int .i64 0]) (by simp[results,Tryz.results97,go_sem,gg]) rfl (show OpPost w0 W g a ac b V vc op seat MM _ _ from by rw[HM.out];exact⟨rfl,hO,hX⟩)
   subst he
   rw[if_neg (by simp)] at HM
   obtain⟨hn1,hf0,hfn⟩:=HBK.out rfl
   have hub:Bd (untilM s s.ve.ttl):=addT_bd _ _ H5.out.bn H5.out.bv.2.1
   have hou:=H5.out.bo.2.1
   have C0:=Lib.hid (fun X (hb:Below w5.heap.size w5 X)=>until_any (H5.out.up hb) s.ve.ttl H5.out.bv.2.1)
   generalize untilM s s.ve.ttl=D at C0 HM hub
   obtain⟨f,rfl⟩:∃m:Nat,b1=(m:Int):=⟨b1.toNat,by omega⟩
   simp only[Int.toNat_natCast] at HM
   clear dc0 dc1 dc2 dc3 dc4 dc5 dc6 dc7 dc8 df0 df1 df2 df3 df4 df5 df6 df7 df8 dz HBK
   have u1:=H5.out.box.cell 1 (.int .i64 s.ve.ttl) rfl
   have zg:=H5.out.box.lt
   go_wp2_with fail
   refine(C0.out _ (Below.refl _ _)).mono ?_
   rintro e6 w6 ⟨rfl,hb6⟩
   have H6:=Lib.hid (H5.out.up hb6)
   have J6:=Lib.hid (J5.out.later hb6)
   have HO6:=Lib.hid (HO5.out.trans (Only3.of g a b hb6))
   clear u1 zg H5 J5 HO5 hb6 C0 hw5
   have u12:=H6.out.box.cell 12 (.int .i64 op.n) rfl
   have zg:=H6.out.box.lt
   go_wp2_with fail
   clear u12 zg
   go_loopw [72] (fun i wr=> ∃k:Nat,i=.int .i64 (k:Int)∧(k:Int)≤op.n∧Hid ((∃cs',Off w0 wr g a ac b V vc cs' (holdsM s op.owner D f k) op seat)∧BoxN wr q 49 #[.int .i64 0,.int .i64 0,.int .i64 0,.int .i64 0,.int .u32 0,.int .u32 0,.int .u64 0,.int .u64 0,.int .i64 0]∧Only3 g a b W wr)) (fun i _=>op.n.toNat-(intOf i).toNat)
   case atStart=>exact⟨0,rfl,by omega,⟨_,H6.out⟩,J6.out,HO6.out⟩
   case round=>
    obtain⟨k,rfl,hk,hr⟩:=hrel
    have HR:=Lib.hid hr
    clear hr
    by_cases hlt:(k:Int)<op.n
    ·have ht:decide ((k:Int)<op.n)=true:=by simpa using hlt
     have nk:IntKind.i64.wrap ((k:Int)+1)=(k:Int)+1:=IntWalk.i64_in _ (by omega)
     obtain⟨hs1,hs2,hs3,hs4⟩:=holdsM_same s op.owner D f k
     have HX:=Lib.hid (show holdsM s op.owner D f (k+1)=setM (holdsM s op.owner D f k) (f+k) (sxHold (seatAt (holdsM s op.owner D f k) (f+k)) op.owner D).1 from rfl)
     clear hs1 hs2 hs4
     generalize hS2:holdsM s op.owner D f (k+1)=s2 at HX⊢
     replace hS2:=Lib.hid hS2
     generalize holdsM s op.owner D f k=s1 at HR HX hs3
     have hik:f+k<s1.seats.length:=by omega
     have nfk:IntKind.i64.wrap ((f:Int)+(k:Int))=((f+k:Nat):Int):=by rw[Int.natCast_add];exact IntWalk.i64_in _ (by omega)
     generalize f+k=i at HX hik nfk
     have hsx:seatAt s1 i=s1.seats[i]:=by simp[seatAt,hik]
     rw[hsx] at HX
     clear hsx
     go_upto_region 14 with fail
     obtain⟨cs1,hoff⟩:=HR.out.1
     have H7:=Lib.hid hoff
     have B7:=Lib.hid HR.out.2
     clear hoff HR
     obtain⟨ds,⟨rfl,hxo⟩,hd,hf⟩:=H7.out.ss.cell_ hik
     have d0:=hd 0 _ rfl
     have d1:=hd 1 _ rfl
     have d2:=hd 2 _ rfl
     have d3:=hd 3 _ rfl
     have d4:=hd 4 _ rfl
     simp only[sxR,Nat.add_zero] at d0 d1 d2 d3 d4
     have C3:=Lib.hid (fun X=>sxHold_any s1.seats[i] op.owner D X)
     have HOK:=Lib.hid (show SxOk (sxHold s1.seats[i] op.owner D).1 from sxHold_ok hxo hou hub)
     clear hxo hd hf
     generalize s1.seats[i]=x at*
     generalize hr:sxHold x op.owner D=R at C3 HX HOK
     clear hr
     obtain⟨⟨r0,r1,r2,r3,r4⟩,re⟩:=R
     unfold sxV at C3
     simp only at C3 HX
     have hi0:(0:Int)≤(i:Int):=by omega
     have hi1:(i:Int)<(s1.seats.length:Int):=by omega
     have g5:=gro_cell (H7.out.box.cell 5 (.slice (some ⟨a,0,none⟩) s1.seats.length ac) rfl)
     have g8:=gro_cell (H7.out.box.cell 8 (.int .u32 op.owner) rfl)
     have q0:=gro_cell d0
     have q1:=gro_cell d1
     have q2:=gro_cell d2
     have q3:=gro_cell d3
     have q4:=gro_cell d4
     clear d0 d1 d2 d3 d4
     refine wp_region_gro_late 29 27 (by kernel_rfl) (by kernel_rfl) (fun _ _ _ _ _ h=>h) ?_
     simp only[List.take_succ_cons,List.take_zero,List.drop_succ_cons,List.drop_zero]
     repeat(go_big_quiet_step (first|(go_at_call 128;exact Calls.gro_of (C3.out _))|fail))
     refine wpQuiet_nil ?_
     rintro _ ⟨p,rfl⟩
     have hg:=gro_below wr p
     have H8:=Lib.hid (H7.out.up hg)
     have B8:=Lib.hid (And.intro (B7.out.1.later hg) (B7.out.2.trans (Only3.of g a b hg)))
     clear g5 g8 q0 q1 q2 q3 q4 hg H7 B7
     generalize gro wr p=w8 at H8 B8⊢
     obtain⟨ds',⟨rfl,_⟩,hd,hf⟩:=H8.out.ss.cell_ hik
     have d0:=hd 0 _ rfl
     have d1:=hd 1 _ rfl
     have d2:=hd 2 _ rfl
     have d3:=hd 3 _ rfl
     have d4:=hd 4 _ rfl
     simp only[sxR,Nat.add_zero] at d0 d1 d2 d3 d4
     have f0:=hf (i*5)
     have f1:=hf (i*5+1)
     have f2:=hf (i*5+2)
     have f3:=hf (i*5+3)
     have f4:=hf (i*5+4)
     have za:=H8.out.aB.2
     obtain⟨hs1,hs2⟩:=H8.out.set hik HOK.out
     simp only[putAt,sxCells] at hs1 hs2
     have hr5:=B8.out.1.kept hs2 (fun e=>(Tag.of_box B8.out.1).ne (Tag.of_own H8.out.ss) (by decide) (by injection e))
     have ho5:=B8.out.2.trans (Only3.grown (g:=g) (a:=a) (b:=b) hs2 (.inr (.inl rfl)))
     have hall:=And.intro hs1 (And.intro hr5 ho5)
     clear hd hf hs1 hs2 hr5 ho5
     go_upto_region 15 with fail
     refine at_world (fun X=>Off w0 X g a ac b V vc cs1 (setM s1 i ⟨r0,r1,r2,r3,r4⟩) op seat∧BoxN X q 49 #[.int .i64 0,.int .i64 0,.int .i64 0,.int .i64 0,.int .u32 0,.int .u32 0,.int .u64 0,.int .u64 0,.int .i64 0]∧Only3 g a b W X) hall fun w9 h9=> ?_
     clear hall d0 d1 d2 d3 d4 f0 f1 f2 f3 f4 za H8 B8
     have H9:=Lib.hid h9
     clear h9
     go_wp2_with fail
     go_roundw
     case rel=>exact⟨k+1,by go_num,by omega,⟨_,by rw[hS2.out,HX.out];exact H9.out.1⟩,H9.out.2.1,H9.out.2.2⟩
     case measure=>simp[intOf];omega
    ·have ht:decide ((k:Int)<op.n)=false:=by simp;omega
     have hkn:op.n.toNat=k:=by omega
     rw[hkn] at HM
     clear hkn
     obtain⟨cs1,hoff⟩:=HR.out.1
     have H7:=Lib.hid hoff
     have J7:=Lib.hid HR.out.2.1
     have HO7:=Lib.hid HR.out.2.2
     clear hoff HR
     have u12:=H7.out.box.cell 12 (.int .i64 op.n) rfl
     have zg:=H7.out.box.lt
     obtain⟨dc0,df0,dc1,df1,dc2,df2,dc3,df3,dc4,df4,dc5,df5,dc6,df6,dc7,df7,dc8,df8,dz⟩:=J7.out.x9
     generalize holdsM s op.owner D f k=s1 at*
     go_wp2_with fail
     clear u12 zg
     have b':=J7.out.set9 (.int .i64 0) (.int .i64 (f:Int)) (.int .i64 op.n) (.int .i64 D) (.int .u32 0) (.int .u32 0) (.int .u64 0) (.int .u64 0) (.int .i64 0)
     have hg:=grownBy_putAt [.int .i64 0,.int .i64 (f:Int),.int .i64 op.n,.int .i64 D,.int .u32 0,.int .u32 0,.int .u64 0,.int .u64 0,.int .i64 0] wr q 0
     simp only[putAt,Nat.zero_add,Nat.reduceAdd] at hg
     have hall:=And.intro b' (And.intro (H7.out.new hg (Tag.of_box J7.out) (by omega) (by decide) (by decide) (by decide) (by decide)) (HO7.out.new hg (by omega)))
     clear b' hg dc0 dc1 dc2 dc3 dc4 dc5 dc6 dc7 dc8 df0 df1 df2 df3 df4 df5 df6 df7 df8 dz
     refine at_world (fun X=>BoxN X q 49 #[.int .i64 0,.int .i64 (f:Int),.int .i64 op.n,.int .i64 D,.int .u32 0,.int .u32 0,.int .u64 0,.int .u64 0,.int .i64 0]∧(∃cs',Off w0 X g a ac b V vc cs' s1 op seat)∧Only3 g a b W X) ⟨hall.1,⟨_,hall.2.1⟩,hall.2.2⟩ fun Y ⟨b',hO,hX⟩=> ?_
     clear hall
     have gg:=b'.x9
     exact bodyPost_ret (v:=.agg #[.int .i64 0,.int .i64 (f:Int),.int .i64 op.n,.int .i64 D,.int .u32 0,.int .u32 0,.int .u64 0,.int .u64 0,.int .i64 0]) (by simp[results,Tryz.results97,go_sem,gg]) rfl (show OpPost w0 W g a ac b V vc op seat MM _ _ from by rw[HM.out];exact⟨rfl,hO,hX⟩)
end Go.Proofs.YtlckmjiioohcmaaGreatDoor

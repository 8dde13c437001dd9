/-
  Walk of model.do. Conditions: as the theorem says.
  Walk of model.Do. Conditions: as the theorem says.
  Walk of model.Play. Conditions: as the theorem says.
-/
import Derived.Test.YtlckmjiioohcmaaGreatDoorMdV
import Derived.Deep.CutRange
namespace Go.Proofs.YtlckmjiioohcmaaGreatDoor
open Go.RowKit
theorem BoxN.range2 {W:World} {B:Nat} {t:TypeId} {cs:List Value} (h:BoxN W B t cs.toArray):W.rangeAt B 0 cs:=fun j v hv=>by rw[Nat.zero_add];exact h.cell j v (by simpa using hv)
theorem grownBy_setRow {w:World} {g:Nat} {t:TypeId} {old:Array Value} (h:BoxN w g t old) (cs:Array Value):w.grownBy (w.setRow g cs) (some g)∧BoxN (w.setRow g cs) g t cs:=
 ⟨⟨rfl,rfl,rfl,by simp,fun k _ hk=>setRow_other w g k cs (fun e=>hk (by rw[e]))⟩,setRow_heap w g old cs t _ h⟩
theorem four_boxes {W:World} {q:Nat} (hq:W.heap.size=q) (c1 c2 c3 c4:Array Value) (t1 t2 t3 t4:TypeId):
 Below W.heap.size W ((((W.alloc (.cells c1 t1)).alloc (.cells c2 t2)).alloc (.cells c3 t3)).alloc (.cells c4 t4))∧BoxN ((((W.alloc (.cells c1 t1)).alloc (.cells c2 t2)).alloc (.cells c3 t3)).alloc (.cells c4 t4)) q t1 c1∧
 BoxN ((((W.alloc (.cells c1 t1)).alloc (.cells c2 t2)).alloc (.cells c3 t3)).alloc (.cells c4 t4)) (q+1) t2 c2∧BoxN ((((W.alloc (.cells c1 t1)).alloc (.cells c2 t2)).alloc (.cells c3 t3)).alloc (.cells c4 t4)) (q+1+1) t3 c3∧
 BoxN ((((W.alloc (.cells c1 t1)).alloc (.cells c2 t2)).alloc (.cells c3 t3)).alloc (.cells c4 t4)) (q+1+1+1) t4 c4:=by
 subst hq
 have e1:(W.alloc (.cells c1 t1)).heap.size=W.heap.size+1:=by simp
 have e2:((W.alloc (.cells c1 t1)).alloc (.cells c2 t2)).heap.size=W.heap.size+1+1:=by simp
 have e3:(((W.alloc (.cells c1 t1)).alloc (.cells c2 t2)).alloc (.cells c3 t3)).heap.size=W.heap.size+1+1+1:=by simp
 refine⟨((bal (bal (bal (Below.refl _ _)))).alloc (by simp;omega) _),(((BoxN.new W t1 c1).alloc _).alloc _).alloc _, ?_, ?_, ?_⟩
 ·exact((e1▸BoxN.new (W.alloc (.cells c1 t1)) t2 c2).alloc _).alloc _
 ·exact(e2▸BoxN.new ((W.alloc (.cells c1 t1)).alloc (.cells c2 t2)) t3 c3).alloc _
 ·exact e3▸BoxN.new (((W.alloc (.cells c1 t1)).alloc (.cells c2 t2)).alloc (.cells c3 t3)) t4 c4
theorem two_rows {X:World} {g h:Nat} {t u:TypeId} {o1 o2:Array Value} (h1:BoxN X g t o1) (h2:BoxN X h u o2) (hne:g≠h) (c1 c2:Array Value):
 BoxN (X.setRow g c1) h u o2∧X.grownBy (X.setRow g c1) (some g)∧(X.setRow g c1).grownBy ((X.setRow g c1).setRow h c2) (some h)∧BoxN ((X.setRow g c1).setRow h c2) g t c1∧BoxN ((X.setRow g c1).setRow h c2) h u c2:=by
 obtain⟨a1,a2⟩:=grownBy_setRow h1 c1
 have a3:=h2.kept a1 (fun e=>hne (by injection e with e;exact e.symm))
 obtain⟨b1,b2⟩:=grownBy_setRow a3 c2
 exact⟨a3,a1,b1,a2.kept b1 (fun e=>hne (by injection e)),b2⟩
structure MdMem (W:World) (a ac b:Nat) (cs:List Value) (s:Md):Prop where
 ss:Own sxR 81 0 W (.slice (some ⟨a,0,none⟩) s.seats.length ac) s.seats
 qb:BoxN W b 85 cs.toArray
 ql:cs.length=s.qs.length
 qq:∀(k:Nat) (l:List Int),s.qs[k]?=some l→∃A c,cs[k]?=some (.slice A l.length c)∧QuT W (.slice A l.length c) l
theorem Off.mem {w0 W:World} {g a ac b:Nat} {V:Option Addr} {vc:Nat} {cs:List Value} {s:Md} {op:MOp} {seat:Int} (h:Off w0 W g a ac b V vc cs s op seat):MdMem W a ac b cs s:=⟨h.ss.mono (Nat.zero_le _),h.qb,h.ql,h.qq⟩
theorem MdMem.kept {W W':World} {a ac b x:Nat} {t:TypeId} {cs:List Value} {s:Md} (h:MdMem W a ac b cs s) (hg:W.grownBy W' (some x)) (hx:Tag W x t) (n2:t≠81) (n3:t≠85) (n4:t≠41):MdMem W' a ac b cs s:=
 ⟨h.ss.kept hg (fun k hk e=>(Tag.of_own h.ss).ne hx (Ne.symm n2) (by cases e;cases hk;rfl)) (fun cs y h=>sxR_flat _ _ _ _ h),h.qb.kept hg (fun e=>(Tag.of_box h.qb).ne hx (Ne.symm n3) (by cases e;rfl)),h.ql,fun k l hk=>by
  obtain⟨A,c,h1,h2⟩:=h.qq k l hk
  exact⟨A,c,h1,h2.kept hg hx n4⟩⟩
theorem MdMem.drew {W:World} {a ac b:Nat} {cs:List Value} {s:Md} (h:MdMem W a ac b cs s):MdMem W.drew a ac b cs s:=
 ⟨h.ss.up (bdd (Below.refl _ _)),h.qb,h.ql,fun k l hk=>by
  obtain⟨A,c,h1,h2⟩:=h.qq k l hk
  exact⟨A,c,h1,h2.up (bdd (Below.refl _ _))⟩⟩
theorem MdMem.isMd {W:World} {a ac b vc:Nat} {V:Option Addr} {cs:List Value} {s:Md} (h:MdMem W a ac b cs s) (hv:Sl secR W (.slice V s.ve.secs.length vc) s.ve.secs) (hl:s.qs.length≤1000) (bv:Bd s.ve.shards∧Bd s.ve.ttl∧Bd s.ve.session) (bn:Bd s.now):
 IsMd W ⟨V,vc,some ⟨a,0,none⟩,ac,some ⟨b,0,none⟩,s.qs.length⟩ s:=by
 refine⟨hv,h.ss.sl,⟨_,_,rfl,Nat.le_refl _,by show s.qs.length≤_;omega,.inr ⟨b,0,rfl,h.qb.lt,fun k l hk=> ?_⟩⟩,bv.1,bv.2.1,bv.2.2,bn⟩
 obtain⟨A,c,h1,h2⟩:=h.qq k l hk
 refine⟨_,⟨A,c,rfl,h2.1⟩,fun j u hu=> ?_⟩
 have hj:j=0:=by
  cases j with
  |zero=>rfl
  |succ j=>simp at hu
 subst hj
 have hu':u=.slice A l.length c:=by simpa using hu.symm
 subst hu'
 have:=h.qb.cell k _ (by simpa using h1)
 simpa[quR] using this
theorem target_bd {op:MOp} (h:OpOk op):Bd (targetM op).1:=by
 have h1:=h.2.2.2.1
 have h2:=h.2.2.2.2.2.2.2.1.1
 unfold U32 at h2
 unfold targetM
 split
 ·simp[Bd]
 split
 ·exact h1
 split
 ·unfold Bd;simp only;omega
 split<;>simp[Bd]
theorem sum_pos:∀{l:List Int},(∀n∈l,1≤n)→l≠[]→0<sum l
 |[],_,h=>absurd rfl h
 |[x],h,_=>by have:=h x (by simp);simp[sum];omega
 |x::y::l,h,_=>by
  have h1:=h x (by simp)
  have h2:=sum_pos (l:=y::l) (fun n hn=>h n (by simp[hn])) (by simp)
  show 0<x+sum (y::l)
  omega
theorem seats_pos {s:Md} (h:MdOk s):s.seats≠[]:=by
 intro e
 have h1:=h.seats
 rw[e] at h1
 have h2:=(checkV_ok h.ve).1
 have hp:=secs_pos h.ve
 have h3:=secE_ok (h2.2 0 hp)
 have hne:allRows s.ve≠[]:=by
  intro e
  have hm:(s.ve.secs[0]).rows.getD 0 0∈allRows s.ve:=List.mem_flatMap.2 ⟨_,List.getElem_mem hp,by
   rw[List.getD_eq_getElem?_getD,List.getElem?_eq_getElem (by omega)]
   exact List.getElem_mem _⟩
  rw[e] at hm
  cases hm
 have h4:0<sum (allRows s.ve):=sum_pos (fun n hn=>by
  obtain⟨x,hx,hn⟩:=List.mem_flatMap.1 hn
  obtain⟨j,hj,rfl⟩:=List.getElem_of_mem hx
  exact((secE_ok (h2.2 j hj)).2.1 n hn).1) hne
 simp at h1
 omega
theorem tick_same:∀(l:List Int) (s:Md),(l.foldl (fun s x=>expireM s x.toNat) s).ve=s.ve∧(l.foldl (fun s x=>expireM s x.toNat) s).seats.length=s.seats.length∧(l.foldl (fun s x=>expireM s x.toNat) s).qs.length=s.qs.length
 |[],_=>⟨rfl,rfl,rfl⟩
 |x::l,s=>by
  obtain⟨h1,h2,h3⟩:=tick_same l (expireM s x.toNat)
  obtain⟨e1,e2,e3,e4⟩:=expireM_same s x.toNat
  exact⟨h1.trans e1,h2.trans e3,h3.trans e4⟩
theorem freed_same (s:Md) (k:Nat) (x:Sx) (e:Int):(freedM s k x e).1.ve=s.ve∧(freedM s k x e).1.seats.length=s.seats.length∧(freedM s k x e).1.qs.length=s.qs.length:=by
 unfold freedM
 by_cases h:e=0
 ·simp only[if_pos h]
  obtain⟨h1,_,h3,h4⟩:=offerM_same (setM s k x) k
  exact⟨h1,h3.trans (by simp[setM]),h4⟩
 ·simp only[if_neg h]
  exact⟨by trivial,by trivial,by trivial⟩
theorem sold_same (s:Md) (k:Nat) (x:Sx) (e:Int):(soldM s k x e).1.ve=s.ve∧(soldM s k x e).1.seats.length=s.seats.length∧(soldM s k x e).1.qs.length=s.qs.length:=by
 unfold soldM
 split
 ·exact⟨rfl,by simp[setM],rfl⟩
 ·exact⟨by trivial,by trivial,by trivial⟩
theorem opM_same (s:Md) (op:MOp) (k:Nat):(opM s op k).1.ve=s.ve∧(opM s op k).1.seats.length=s.seats.length∧(opM s op k).1.qs.length=s.qs.length:=by
 unfold opM
 by_cases h1:op.kind=1
 ·rw[if_pos h1];exact⟨by trivial,by trivial,by trivial⟩
 rw[if_neg h1]
 by_cases h1:op.kind=2
 ·rw[if_pos h1]
  unfold holdM
  split
  ·exact⟨rfl,by simp[setM],rfl⟩
  ·exact⟨by trivial,by trivial,by trivial⟩
 rw[if_neg h1]
 by_cases h1:op.kind=3
 ·rw[if_pos h1]
  unfold blockM
  split
  ·exact⟨by trivial,by trivial,by trivial⟩
  ·obtain⟨e1,e2,e3,e4⟩:=holdsM_same s op.owner (untilM s s.ve.ttl) (adBestM s.ve (freeM s) op.section_ op.n).1.toNat op.n.toNat
   exact⟨e1,e3,by rw[e4]⟩
 rw[if_neg h1]
 by_cases h1:op.kind=4
 ·rw[if_pos h1];exact freed_same _ _ _ _
 rw[if_neg h1]
 by_cases h1:op.kind=5
 ·rw[if_pos h1];exact sold_same _ _ _ _
 rw[if_neg h1]
 by_cases h1:op.kind=6
 ·rw[if_pos h1];exact sold_same _ _ _ _
 rw[if_neg h1]
 by_cases h1:op.kind=7
 ·rw[if_pos h1];exact freed_same _ _ _ _
 rw[if_neg h1]
 by_cases h1:op.kind=8
 ·rw[if_pos h1];exact freed_same _ _ _ _
 rw[if_neg h1]
 by_cases h1:op.kind=9
 ·rw[if_pos h1];exact⟨by trivial,by trivial,by trivial⟩
 rw[if_neg h1]
 by_cases h1:op.kind=10
 ·rw[if_pos h1]
  unfold joinM
  split
  ·exact⟨by trivial,by trivial,by trivial⟩
  split
  ·exact⟨by trivial,by trivial,by trivial⟩
  ·exact⟨rfl,rfl,by simp⟩
 rw[if_neg h1]
 by_cases h1:op.kind=11
 ·rw[if_pos h1]
  unfold leaveM
  split
  ·exact⟨by trivial,by trivial,by trivial⟩
  ·exact⟨rfl,rfl,by simp⟩
 rw[if_neg h1]
 unfold tickM
 split
 ·exact⟨by trivial,by trivial,by trivial⟩
 ·exact tick_same _ _
theorem off_range {W:World} {g a ac b vc:Nat} {V:Option Addr} {s:Md} {op:MOp} {seat:Int} {t:TypeId} (h:BoxN W g t (offCells V vc a ac b s op seat).toArray):W.rangeAt g 0 (mdCells ⟨V,vc,some ⟨a,0,none⟩,ac,some ⟨b,0,none⟩,s.qs.length⟩ s):=fun j v hv=>by
 rw[Nat.zero_add]
 have hj:j<7:=(List.getElem?_eq_some_iff.1 hv).1
 refine h.cell j v ?_
 rw[List.getElem?_toArray]
 match j,hj with
 |0,_=>exact hv
 |1,_=>exact hv
 |2,_=>exact hv
 |3,_=>exact hv
 |4,_=>exact hv
 |5,_=>exact hv
 |6,_=>exact hv
structure Loose (lo:Nat) (W Y:World):Prop where
 os:Y.os=W.os
 tape:Y.tape=W.tape
 output:Y.output=W.output
 size:W.heap.size≤Y.heap.size
 old:∀k,k<W.heap.size→k<lo→Y.heap[k]?=W.heap[k]?
 seats:∀k,Tag W k 81→Y.heap[k]?=W.heap[k]?
 lists:∀k,Tag W k 85→Y.heap[k]?=W.heap[k]?
 ones:∀k,Tag W k 41→Y.heap[k]?=W.heap[k]?
theorem Loose.of {lo:Nat} {W Y:World} (h:Below W.heap.size W Y):Loose lo W Y:=
 ⟨h.os,h.tape,h.output,h.size,fun k hk _=>h.block k hk,fun k ht=>h.block k ht.lt,fun k ht=>h.block k ht.lt,fun k ht=>h.block k ht.lt⟩
theorem Tag.of_eq {W Y:World} {k:Nat} {t:TypeId} (h:Tag W k t) (he:Y.heap[k]?=W.heap[k]?):Tag Y k t:=by
 obtain⟨ds,z,h1⟩:=h
 exact⟨ds,z,he.trans h1⟩
theorem Loose.trans {lo:Nat} {W X Y:World} (h:Loose lo W X) (k:Loose lo X Y):Loose lo W Y:=
 ⟨k.os.trans h.os,k.tape.trans h.tape,k.output.trans h.output,Nat.le_trans h.size k.size,fun i hi hl=>(k.old i (Nat.lt_of_lt_of_le hi h.size) hl).trans (h.old i hi hl),
  fun i ht=>(k.seats i (ht.of_eq (h.seats i ht))).trans (h.seats i ht),fun i ht=>(k.lists i (ht.of_eq (h.lists i ht))).trans (h.lists i ht),fun i ht=>(k.ones i (ht.of_eq (h.ones i ht))).trans (h.ones i ht)⟩
theorem Loose.grown {lo x:Nat} {W Y:World} {t:TypeId} (hg:W.grownBy Y (some x)) (hx:Tag W x t) (hl:lo≤x) (n2:t≠81) (n3:t≠85) (n4:t≠41):Loose lo W Y:=
 ⟨hg.os,hg.tape,hg.output,hg.size,fun k hk h=>hg.block k hk (fun e=>by injection e with e;omega),fun k ht=>hg.block k ht.lt (fun e=>ht.ne hx (Ne.symm n2) (by injection e)),
  fun k ht=>hg.block k ht.lt (fun e=>ht.ne hx (Ne.symm n3) (by injection e)),fun k ht=>hg.block k ht.lt (fun e=>ht.ne hx (Ne.symm n4) (by injection e))⟩
def MdKeep (lo:Nat) (W:World) (F:MFrm) (s:Md):Prop:=∀Y,Loose lo W Y→IsMd Y F s
theorem MdKeep.isMd {lo:Nat} {W:World} {F:MFrm} {s:Md} (h:MdKeep lo W F s):IsMd W F s:=h W (Loose.of (Below.refl _ _))
theorem MdKeep.up {lo:Nat} {W X:World} {F:MFrm} {s:Md} (h:MdKeep lo W F s) (hl:Loose lo W X):MdKeep lo X F s:=fun Y hY=>h Y (hl.trans hY)
theorem MdKeep.first {w W:World} {F:MFrm} {s:Md} (h:IsMd w F s) (hb:Below w.heap.size w W):MdKeep w.heap.size W F s:=fun _ hY=>
 h.up ⟨hY.os.trans hb.os,hY.tape.trans hb.tape,hY.output.trans hb.output,Nat.le_trans hb.size hY.size,fun k hk=>(hY.old k (Nat.lt_of_lt_of_le hk hb.size) hk).trans (hb.block k hk)⟩
theorem Own.same {α:Type} {R:Rep α} {e:TypeId} {B:Nat} {w w':World} {v:Value} {xs:List α} (h:Own R e B w v xs) (he:∀k,v.ownBlock=some k→w'.heap[k]?=w.heap[k]?) (hf:R.flat):Own R e B w' v xs:=by
 obtain⟨cells,ho,hm⟩:=h
 have keepm:∀{l:List α} {cl:List Value},R.many w cl l→R.many w' cl l:=by
  intro l
  induction l with
  |nil=>intro cl h;exact h
  |cons x l ih=>
   intro cl h
   obtain⟨a,b,h1,h2,h3⟩:=h
   exact⟨a,b,h1,hf _ _ _ _ h2,ih h3⟩
 refine⟨cells,⟨ho.1, ?_⟩,keepm hm⟩
 rcases ho.2 with h2|⟨g,cap,cur,hv,hB,hg,r⟩
 ·exact .inl h2
 ·exact .inr ⟨g,cap,cur,hv,hB,(he g (by rw[hv];rfl)).trans hg,r⟩
theorem QuT.same {W W':World} {v:Value} {l:List Int} (h:QuT W v l) (hs:W.heap.size≤W'.heap.size) (he:∀k,Tag W k 41→W'.heap[k]?=W.heap[k]?):QuT W' v l:=by
 obtain⟨⟨A,c,rfl,hc,hm,h1⟩,h2⟩:=h
 refine⟨⟨A,c,rfl,hc,hm, ?_⟩,fun hl k hk=> ?_⟩
 ·rcases h1 with h1|⟨b,off,rfl,hlt,hcells⟩
  ·exact .inl h1
  ·refine .inr ⟨b,off,rfl,Nat.lt_of_lt_of_le hlt hs,fun i y hi=> ?_⟩
   obtain⟨cs,h3,h4⟩:=hcells i y hi
   have hl:l≠[]:=by intro e;rw[e] at hi;simp at hi
   exact⟨cs,h3,fun j u hu=>(World.cell?_of_block (he b (h2 hl b rfl))).trans (h4 j u hu)⟩
 ·exact(h2 hl k hk).of_eq (he k (h2 hl k hk))
theorem MdMem.same {lo:Nat} {W Y:World} {a ac b:Nat} {cs:List Value} {s:Md} (h:MdMem W a ac b cs s) (hl:Loose lo W Y):MdMem Y a ac b cs s:=
 ⟨h.ss.same (fun k hk=>hl.seats k (by cases hk;exact Tag.of_own h.ss)) sxR_flat,(hl.lists b (Tag.of_box h.qb)).trans h.qb,h.ql,fun k l hk=>by
  obtain⟨A,c,h1,h2⟩:=h.qq k l hk
  exact⟨A,c,h1,h2.same hl.size hl.ones⟩⟩
def DoPost (lo:Nat) (w:World) (s:Md) (op:MOp) (e:Ending) (w':World):Prop:=
 ∃F,e=.returned (.tuple #[mdV F (doM s op).1,RpV (doM s op).2.1,.int .i64 (doM s op).2.2])∧Below w.heap.size w w'∧MdKeep lo w' F (doM s op).1
theorem copied_ok (w:World) (V:Option Addr) (vc:Nat) (s:Md) (hpos:s.seats≠[]) {e:Ending} {w':World} (h:CopyPost w V vc s e w'):
 ∃a ac b cs,e=.returned (mdV ⟨V,vc,some ⟨a,0,none⟩,ac,some ⟨b,0,none⟩,s.qs.length⟩ s)∧Below w.heap.size w w'∧QOwn w.heap.size w' cs s.qs∧
  ∀op seat,Sl secR w (.slice V s.ve.secs.length vc) s.ve.secs→Bd s.ve.shards∧Bd s.ve.ttl∧Bd s.ve.session→Bd s.now→OpOk op→Bd seat→
   Off w (w'.alloc (.cells (offCells V vc a ac b s op seat).toArray 126)) w'.heap.size a ac b V vc cs s op seat:=by
 obtain⟨A,ac,b,cs,rfl,hb,ho,hB,hbx,hq⟩:=h
 have hlt:0<s.seats.length:=List.length_pos_iff.2 hpos
 obtain⟨a,_,rfl,h1,h2,_⟩:=ho.at_ hlt
 refine⟨a,ac,b,cs,rfl,hb,hq,fun op seat hv bv bn bo bs=>⟨hb.alloc hb.size _,hb.size,hB,BoxN.new _ _ _,hv,ho.up (ba _ _),hbx.alloc _,hq.len,fun k l hk=> ?_,bv,bn,bo,bs⟩⟩
 obtain⟨A,c,h3,h4⟩:=hq.own k l hk
 exact⟨A,c,h3,(QuT.of_own h4).up (ba _ _)⟩
set_option maxHeartbeats 4000000 in
set_option maxRecDepth 20000 in
theorem do_any (lo:Nat) (F:MFrm) (s:Md) (op:MOp) (w:World) (hk:MdKeep lo w F s) (hok:MdOk s) (ho:OpOk op) (hu:UsesAt w):
 Calls Tryz.prog 32 #[mdV F s,.agg (opCells op).toArray] w (DoPost lo w s op):=by
 have hs:=hk.isMd
 have HK:=Lib.hid hk
 clear hk
 have hM:=Lib.hid (show doM s op=if(targetM op).2.2≠0 then(s,noRp,(targetM op).2.2) else if refusedM s op (targetM op).1 (targetM op).2.1≠0 then(s,{noRp with err:=refusedM s op (targetM op).1 (targetM op).2.1},0)
  else if(opM s op (targetM op).1.toNat).2.err≠0 then(s,(opM s op (targetM op).1.toNat).2,0) else((opM s op (targetM op).1.toNat).1,(opM s op (targetM op).1.toNat).2,0) from rfl)
 have C1:=Lib.hid (fun W (hb:Below w.heap.size w W)=>target_any op W ho (hu.up hb hu.1))
 have C2:=Lib.hid (fun W se sc (h0:1≤op.kind) (h1:op.kind≤12)=>refused_any F s op se sc W h0 h1)
 have HD:=Lib.hid (fun w0 g a ac b V vc ht hr=>disp_any w0 g a ac b V vc s op hok ht hr)
 have HS:=Lib.hid hs
 have HOK:=Lib.hid hok
 have HO:=Lib.hid ho
 have HT:=Lib.hid (@target_kind op)
 have HTB:=Lib.hid (target_bd ho)
 generalize hdo:doM s op=M at hM
 have HDO:=Lib.hid hdo
 clear hs hok ho hu hdo
 generalize targetM op=T at hM C1 HD HT HTB
 obtain⟨se,sc,te⟩:=T
 simp only at hM C1 HD HT HTB
 obtain⟨ms,hms⟩:∃ms:List Value,ms=mdCells F s:=⟨_,rfl⟩
 obtain⟨os,hos⟩:∃os:List Value,os=opCells op:=⟨_,rfl⟩
 rw[show mdV F s=.agg ms.toArray by rw[hms];rfl,show opCells op=os from hos.symm]
 rw[←hos] at C1 C2
 rw[show mdV F s=.agg ms.toArray by rw[hms];rfl] at C2
 have HMS:=Lib.hid hms
 have HOS:=Lib.hid hos
 have S1:=md_s hms
 have S2:=Lib.hid (show(Tryz.prog.info? 46).map (·.size)=some os.length by rw[hos];kernel_rfl)
 have S1A:=md_S hms
 have L1:=md_l hms
 have O1:=md_o hms
 clear hms hos
 go_enter Tryz.func32,Tryz.ntmps32
 go_upto_region 1 with fail
 obtain⟨q,hq⟩:∃q,w.heap.size=q:=⟨_,rfl⟩
 rw[hq]
 refine at_world (fun X=>Below w.heap.size w X∧BoxN X q 31 ms.toArray∧BoxN X (q+1) 46 os.toArray∧BoxN X (q+1+1) 31 #[.int .i64 0,.int .i64 0,.int .i64 0,.slice none 0 0,.int .i64 0,.slice none 0 0,.slice none 0 0]∧BoxN X (q+1+1+1) 49 #[.int .i64 0,.int .i64 0,.int .i64 0,.int .i64 0,.int .u32 0,.int .u32 0,.int .u64 0,.int .u64 0,.int .i64 0]) (four_boxes hq _ _ _ _ _ _ _ _) fun w0 hw0=> ?_
 obtain⟨hb0,k1,k2,k3,k4⟩:=hw0
 have B0:=Lib.hid hb0
 have K1:=Lib.hid k1
 have K2:=Lib.hid k2
 have K3:=Lib.hid k3
 have K4:=Lib.hid k4
 have hwq:w.heap.size=q:=hq
 clear hb0 k1 k2 k3 k4 hq
 go_wp2_with (refine wpList_load_mid rfl 46 (.tmp 3) rfl (q+1) 0 rfl os _ K2.out.range2 Tryz.underlying46 rfl S2.out ?_)
 refine(C1.out _ B0.out).mono ?_
 rintro e w1 ⟨rfl,hb⟩
 have B1:=Lib.hid (B0.out.trans (hb.mono B0.out.size))
 have P1:=Lib.hid (K1.out.later hb)
 have P2:=Lib.hid (K2.out.later hb)
 have P3:=Lib.hid (K3.out.later hb)
 have P4:=Lib.hid (K4.out.later hb)
 clear hb B0 K1 K2 K3 K4
 by_cases t0:te=0
 case neg=>
  have e1:(te !=0)=true:=by simpa using t0
  have hM1:=Lib.hid (show M=(s,noRp,te) by rw[hM.out,if_pos t0])
  clear hM t0
  have S9:=rp_S (ms:=rpCells noRp) rfl
  have O9:=rp_o (ms:=rpCells noRp) rfl
  go_wp2_with (first|refine wpList_load_mid rfl 31 (.tmp 2) rfl q 0 rfl ms _ P1.out.range2 Tryz.underlying31 rfl S1.out ?_|refine wpList_store_row rfl 31 (.tmp 4) (.tmp 21) rfl (q+1+1) ms.toArray rfl rfl 31 _ P3.out S1A.out L1.out.symm O1.out ?_|refine wpList_store_row rfl 49 (.tmp 5) (.tmp 22) rfl (q+1+1+1) (rpCells noRp).toArray rfl rfl 49 _ (two_rows P3.out P4.out (by omega) ms.toArray #[]).1 S9.out rfl O9.out ?_)
  have hrow:=two_rows P3.out P4.out (by omega) ms.toArray (rpCells noRp).toArray
  refine at_world (fun Y=>Below w.heap.size w Y∧BoxN Y (q+1+1) 31 ms.toArray∧BoxN Y (q+1+1+1) 49 (rpCells noRp).toArray) ⟨(B1.out.grown hrow.2.1 B1.out.size (fun k hk=>by injection hk with hk;omega)).grown hrow.2.2.1 (by have:=B1.out.size;simp;omega) (fun k hk=>by injection hk with hk;omega),hrow.2.2.2.1,hrow.2.2.2.2⟩ fun Y hY=> ?_
  clear hrow
  have k3:=hY.2.1
  have k4:=hY.2.2
  rw[HMS.out] at k3
  have gg:=k3.x7
  have uu:=k4.x9
  clear k3 k4
  exact bodyPost_ret (v:=.tuple #[mdV F s,RpV noRp,.int .i64 te]) (by simp[results,Tryz.results32,go_sem,mdV,RpV,gg,uu]) rfl (show DoPost lo w s op _ _ from⟨F,by rw[HDO.out,hM1.out],hY.1,by rw[HDO.out,hM1.out];exact HK.out.up (Loose.of hY.1)⟩)
 subst t0
 have HT1:=Lib.hid (HT.out rfl)
 replace hM:=Lib.hid (show M=if refusedM s op se sc≠0 then(s,{noRp with err:=refusedM s op se sc},0) else if(opM s op se.toNat).2.err≠0 then(s,(opM s op se.toNat).2,0) else((opM s op se.toNat).1,(opM s op se.toNat).2,0) by rw[hM.out,if_neg (by simp)])
 have HD1:=Lib.hid (fun w0 g a ac b V vc=>HD.out w0 g a ac b V vc rfl)
 replace C2:=Lib.hid (fun W=>C2.out W se sc HT1.out.1 HT1.out.2)
 clear HT HD
 generalize refusedM s op se sc=R at hM C2 HD1
 go_wp2_with (first|refine wpList_load_mid rfl 31 (.tmp 2) rfl q 0 rfl ms _ P1.out.range2 Tryz.underlying31 rfl S1.out ?_|refine wpList_load_mid rfl 46 (.tmp 3) rfl (q+1) 0 rfl os _ P2.out.range2 Tryz.underlying46 rfl S2.out ?_)
 refine(C2.out _).mono ?_
 rintro e w2 ⟨rfl,hb⟩
 have B2:=Lib.hid (B1.out.trans (hb.mono B1.out.size))
 have R1:=Lib.hid (P1.out.later hb)
 have R2:=Lib.hid (P2.out.later hb)
 have R3:=Lib.hid (P3.out.later hb)
 have R4:=Lib.hid (P4.out.later hb)
 clear hb B1 P1 P2 P3 P4 C1 C2
 by_cases t0:R=0
 case neg=>
  have e1:(R !=0)=true:=by simpa using t0
  have hM1:=Lib.hid (show M=(s,{noRp with err:=R},0) by rw[hM.out,if_pos t0])
  clear hM t0
  have S9:=rp_S (ms:=rpCells {noRp with err:=R}) rfl
  have O9:=rp_o (ms:=rpCells {noRp with err:=R}) rfl
  go_wp2_with (first|refine wpList_load_mid rfl 31 (.tmp 2) rfl q 0 rfl ms _ R1.out.range2 Tryz.underlying31 rfl S1.out ?_|refine wpList_store_row rfl 31 (.tmp 4) (.tmp 31) rfl (q+1+1) ms.toArray rfl rfl 31 _ R3.out S1A.out L1.out.symm O1.out ?_|refine wpList_store_row rfl 49 (.tmp 5) (.tmp 33) rfl (q+1+1+1) (rpCells {noRp with err:=R}).toArray rfl rfl 49 _ (two_rows R3.out R4.out (by omega) ms.toArray #[]).1 S9.out rfl O9.out ?_)
  have hrow:=two_rows R3.out R4.out (by omega) ms.toArray (rpCells {noRp with err:=R}).toArray
  refine at_world (fun Y=>Below w.heap.size w Y∧BoxN Y (q+1+1) 31 ms.toArray∧BoxN Y (q+1+1+1) 49 (rpCells {noRp with err:=R}).toArray) ⟨(B2.out.grown hrow.2.1 B2.out.size (fun k hk=>by injection hk with hk;omega)).grown hrow.2.2.1 (by have:=B2.out.size;simp;omega) (fun k hk=>by injection hk with hk;omega),hrow.2.2.2.1,hrow.2.2.2.2⟩ fun Y hY=> ?_
  clear hrow
  have k3:=hY.2.1
  have k4:=hY.2.2
  rw[HMS.out] at k3
  have gg:=k3.x7
  have uu:=k4.x9
  clear k3 k4
  exact bodyPost_ret (v:=.tuple #[mdV F s,RpV {noRp with err:=R},.int .i64 0]) (by simp[results,Tryz.results32,go_sem,mdV,RpV,gg,uu]) rfl (show DoPost lo w s op _ _ from⟨F,by rw[HDO.out,hM1.out],hY.1,by rw[HDO.out,hM1.out];exact HK.out.up (Loose.of hY.1)⟩)
 subst t0
 replace hM:=Lib.hid (show M=if(opM s op se.toNat).2.err≠0 then(s,(opM s op se.toNat).2,0) else((opM s op se.toNat).1,(opM s op se.toNat).2,0) by rw[hM.out,if_neg (by simp)])
 replace HD1:=Lib.hid (fun w0 g a ac b V vc=>HD1.out w0 g a ac b V vc rfl)
 have hpos:s.seats≠[]:=seats_pos HOK.out
 have C3:=Lib.hid (fun W (hb:Below w2.heap.size w2 W)=>(show Calls Tryz.prog 63 #[.agg ms.toArray] W (CopyPost W F.V F.vc s) by rw[HMS.out];exact copied_any F s W (HS.out.up (B2.out.trans (hb.mono B2.out.size))) ⟨by have:=HOK.out.nqs;omega,fun l hl=>by have:=HOK.out.qlen l hl;omega,by have:=HOK.out.len;omega⟩))
 go_upto_region 7 with fail
 go_cut [11] from 34 to 55 (fun v11 W=> ∃wd g a ac b cs,v11=.pointer (some ⟨g,0,none⟩)∧Below w2.heap.size w2 wd∧Off wd W g a ac b F.V F.vc cs s op se∧QOwn wd.heap.size W cs s.qs)
 case first=>
  refine wp_region_held (S:=fun X=>Below w2.heap.size w2 X) (by kernel_rfl) ?_
  have HSS:Below w2.heap.size w2 w2.drew:=bdd (Below.refl _ _)
  refine wpAnyH_take (i:=0) rfl (by kernel_rfl) (by kernel_rfl) (by kernel_rfl) (fun _ _ _ h=>h) (yieldsIf_load_mid rfl 31 (.tmp 2) rfl (q) (0) rfl (ms) _ (fun W hb=>(R1.out.later hb).range2) Tryz.underlying31 rfl (S1.out)) HSS ?_
  refine wpAnyH_take (i:=2) rfl (by kernel_rfl) (by kernel_rfl) (by kernel_rfl) (fun _ _ _ h=>h) (yieldsIf_load_mid rfl 46 (.tmp 3) rfl (q+1) (0) rfl (opCells op) _ (fun W hb=>by rw[←HOS.out];exact(R2.out.later hb).range2) Tryz.underlying46 rfl (by rw[←HOS.out];exact S2.out)) HSS ?_
  refine wpAnyH_take (i:=3) (v:=.int .i64 se) rfl (by kernel_rfl) (by kernel_rfl) (by kernel_rfl) (fun _ _ _ h=>h) (.inl ⟨rfl,fun W hS=>by go_simp⟩) HSS ?_
  refine wpAnyH_all (rs:=[1]) (by kernel_rfl) (by simp) fun j hj=> ?_
  obtain rfl:j=1:=by simpa using hj
  clear hj
  refine heldOp rfl fun K hK=> ?_
  go_wp2_with fail
  refine(C3.out _ HSS).mono ?_
  intro e w3 h3
  obtain⟨a,ac,b,cs,rfl,hb3,hq3,hoff⟩:=copied_ok _ _ _ s hpos h3
  have hoff':=hoff op se (HS.out.secs.up (B2.out.trans (HSS.mono B2.out.size))) ⟨HS.out.shards,HS.out.ttl,HS.out.session⟩ HS.out.now HO.out HTB.out
  clear hoff h3
  have HS3:=Lib.hid (show Below w2.heap.size w2 w3 from HSS.trans (hb3.mono (Nat.le_refl _)))
  go_wp2_with fail
  refine hK.out _ _ ⟨HS3.out, ?_⟩
  clear hK K
  unfold opCells mdV
  refine wpAnyH_all (rs:=[4]) (by kernel_rfl) (by simp) fun j hj=> ?_
  obtain rfl:j=4:=by simpa using hj
  clear hj
  refine heldOp rfl fun K hK=> ?_
  go_wp2_with fail
  refine hK.out _ _ ⟨HS3.out, ?_⟩
  clear hK K
  refine wpAnyH_all (rs:=[5]) (by kernel_rfl) (by simp) fun j hj=> ?_
  obtain rfl:j=5:=by simpa using hj
  clear hj
  refine heldOp rfl fun K hK=> ?_
  go_wp2_with fail
  refine at_world (fun X=>Below w2.heap.size w2 X∧Off w2.drew X w3.heap.size a ac b F.V F.vc cs s op se∧QOwn w2.drew.heap.size X cs s.qs) ⟨HS3.out.alloc HS3.out.size _,hoff',hq3.up (ba _ _)⟩ fun X hX=> ?_
  refine hK.out _ _ ⟨hX.1, ?_⟩
  clear hK K
  refine wpAnyH_all (rs:=[6]) (by kernel_rfl) (by simp) fun j hj=> ?_
  obtain rfl:j=6:=by simpa using hj
  clear hj
  refine heldOp rfl fun K hK=> ?_
  go_wp2_with fail
  refine hK.out _ _ ⟨hX.1, ?_⟩
  clear hK K
  refine wpAnyH_done (by kernel_rfl) ?_ _
  go_wp2_with fail
  go_meet
  exact⟨w2.drew,_,a,ac,b,cs,rfl,HSS,hX.2.1,hX.2.2⟩
 case rest=>
  obtain⟨wd,g,a,ac,b,cs,rfl,hbd,hoff,hqo⟩:=hcut
  obtain⟨f,⟨hidx,hent⟩,hcall⟩:=HD1.out wd g a ac b F.V F.vc
  have BD:=Lib.hid (B2.out.trans (hbd.mono B2.out.size))
  have Q1:=Lib.hid (R1.out.later hbd)
  have Q2:=Lib.hid (R2.out.later hbd)
  have Q3:=Lib.hid (R3.out.later hbd)
  have Q4:=Lib.hid (R4.out.later hbd)
  have HOF:=Lib.hid hoff
  have HQO:=Lib.hid hqo
  have HC:=Lib.hid hcall
  have e0:=Q2.out.cell 0 (.int .i64 op.kind) (by rw[HOS.out];rfl)
  have HVE:=Lib.hid (opM_same s op se.toNat)
  have HNQ:=Lib.hid (HOK.out.op op se.toNat)
  generalize opM s op se.toNat=N at hM HC HVE HNQ
  obtain⟨ds,hds⟩:∃ds,ds=doesL:=⟨_,rfl⟩
  have C4:=Lib.hid does_any
  rw[←hds] at C4
  rw[←hds] at hidx
  clear hbd hoff hqo hcall hds R1 R2 R3 R4 B2 C3 HD1
  go_upto_region 8 with fail
  go_cut [12] from 40 to 55 (fun v12 W=> ∃rq,v12=.pointer (some ⟨rq,0,none⟩)∧Below wd.heap.size wd W∧wd.heap.size≤rq∧BoxN W rq 49 (rpCells N.2).toArray∧∃cs',Off wd W g a ac b F.V F.vc cs' N.1 op se)
  case first=>
   have S9:=rp_S (ms:=rpCells N.2) rfl
   have O9:=rp_o (ms:=rpCells N.2) rfl
   refine wp_region_held (S:=fun X=>Below wd.heap.size wd X) (by kernel_rfl) ?_
   refine at_world (fun X=>Off wd X g a ac b F.V F.vc cs s op se∧QOwn wd.heap.size X cs s.qs) ⟨HOF.out.up (bdd (Below.refl _ _)),HQO.out.up (bdd (Below.refl _ _))⟩ fun x0 hX=> ?_
   have F0:=Lib.hid hX.1
   have G0:=Lib.hid hX.2
   clear HOF HQO hX
   refine wpAnyH_take (i:=1) (v:=.pointer (some ⟨q+1,0,none⟩)) rfl (by kernel_rfl) (by kernel_rfl) (by kernel_rfl) (fun _ _ _ h=>h) (.inl ⟨rfl,fun W hS=>by go_simp⟩) F0.out.bw ?_
   refine wpAnyH_take (i:=2) (v:=.int .i64 op.kind) rfl (by kernel_rfl) (by kernel_rfl) (by kernel_rfl) (fun _ _ _ h=>h) (.inl ⟨rfl,fun W hS=>by have c:=cell_later hS e0;go_simp⟩) F0.out.bw ?_
   refine wpAnyH_take (i:=4) (v:=.pointer (some ⟨g,0,none⟩)) rfl (by kernel_rfl) (by kernel_rfl) (by kernel_rfl) (fun _ _ _ h=>h) (.inl ⟨rfl,fun W hS=>by go_simp⟩) F0.out.bw ?_
   refine wpAnyH_all (rs:=[0,6]) (by kernel_rfl) (by simp) fun j hj=> ?_
   simp only[List.mem_cons,List.not_mem_nil,or_false] at hj
   rcases hj with rfl|rfl
   ·refine heldOp rfl fun K hK=> ?_
    go_wp2_with fail
    refine(C4.out _).mono ?_
    rintro e x1 ⟨rfl,hb⟩
    have F1:=Lib.hid (F0.out.up hb)
    have G1:=Lib.hid (G0.out.up hb)
    clear hb F0 G0
    go_wp2_with fail
    refine hK.out _ _ ⟨F1.out.bw, ?_⟩
    clear hK K
    refine wpAnyH_take (i:=3) (v:=fnV f) rfl (by kernel_rfl) (by kernel_rfl) (by kernel_rfl) (fun _ _ _ h=>h) (.inl ⟨rfl,fun W hS=>by have hx:=hidx W;go_simp⟩) F1.out.bw ?_
    unfold fnV
    refine wpAnyH_all (rs:=[5,6]) (by kernel_rfl) (by simp) fun j hj=> ?_
    simp only[List.mem_cons,List.not_mem_nil,or_false] at hj
    rcases hj with rfl|rfl
    ·refine heldOp rfl fun K hK=> ?_
     go_wp2_with fail
     refine(HC.out _ cs F1.out G1.out).mono ?_
     rintro e x2 ⟨rfl,⟨cs5,ho⟩,hsp⟩
     have F2:=Lib.hid ho
     clear ho hsp F1 G1
     unfold RpV
     go_wp2_with fail
     refine hK.out _ _ ⟨F2.out.bw, ?_⟩
     clear hK K
     refine wpAnyH_all (rs:=[6]) (by kernel_rfl) (by simp) fun j hj=> ?_
     obtain rfl:j=6:=by simpa using hj
     clear hj
     refine heldOp rfl fun K hK=> ?_
     go_wp2_with fail
     refine at_world (fun X=>(Off wd X g a ac b F.V F.vc cs5 N.1 op se)∧BoxN X x2.heap.size 49 #[.int .i64 0,.int .i64 0,.int .i64 0,.int .i64 0,.int .u32 0,.int .u32 0,.int .u64 0,.int .u64 0,.int .i64 0]∧wd.heap.size≤x2.heap.size) ⟨F2.out.up (ba _ _),BoxN.new _ _ _,F2.out.bw.size⟩ fun x3 hX=> ?_
     have F3:=Lib.hid hX.1
     have D3:=Lib.hid hX.2.1
     have hrq:=hX.2.2
     clear hX F2
     refine hK.out _ _ ⟨F3.out.bw, ?_⟩
     clear hK K
     refine wpAnyH_all (rs:=[7]) (by kernel_rfl) (by simp) fun j hj=> ?_
     obtain rfl:j=7:=by simpa using hj
     clear hj
     refine heldOp rfl fun K hK=> ?_
     go_wp2_with (refine wpList_store_row rfl 49 (.tmp 12) (.tmp 45) rfl x2.heap.size (rpCells N.2).toArray rfl rfl 49 _ D3.out S9.out rfl O9.out ?_)
     refine at_world (fun X=>Off wd X g a ac b F.V F.vc cs5 N.1 op se∧BoxN X x2.heap.size 49 (rpCells N.2).toArray) ⟨F3.out.new (grownBy_setRow D3.out _).1 (Tag.of_box D3.out) hrq (by decide) (by decide) (by decide) (by decide),(grownBy_setRow D3.out _).2⟩ fun x4 hX=> ?_
     refine hK.out _ _ ⟨hX.1.bw, ?_⟩
     clear hK K
     refine wpAnyH_done (by kernel_rfl) ?_ _
     go_wp2_with fail
     go_meet
     exact⟨_,rfl,hX.1.bw,hrq,hX.2,_,hX.1⟩
    ·refine heldOp rfl fun K hK=> ?_
     go_wp2_with fail
     refine at_world (fun X=>(Off wd X g a ac b F.V F.vc cs s op se∧QOwn wd.heap.size X cs s.qs)∧BoxN X x1.heap.size 49 #[.int .i64 0,.int .i64 0,.int .i64 0,.int .i64 0,.int .u32 0,.int .u32 0,.int .u64 0,.int .u64 0,.int .i64 0]∧wd.heap.size≤x1.heap.size) ⟨⟨F1.out.up (ba _ _),G1.out.up (ba _ _)⟩,BoxN.new _ _ _,F1.out.bw.size⟩ fun x2 hX=> ?_
     have F2:=Lib.hid hX.1.1
     have G2:=Lib.hid hX.1.2
     have D2:=Lib.hid hX.2.1
     have hrq:=hX.2.2
     clear hX F1 G1
     refine hK.out _ _ ⟨F2.out.bw, ?_⟩
     clear hK K
     refine wpAnyH_all (rs:=[5]) (by kernel_rfl) (by simp) fun j hj=> ?_
     obtain rfl:j=5:=by simpa using hj
     clear hj
     refine heldOp rfl fun K hK=> ?_
     go_wp2_with fail
     refine(HC.out _ cs F2.out G2.out).mono ?_
     rintro e x3 ⟨rfl,⟨cs5,ho⟩,hsp⟩
     have F3:=Lib.hid ho
     have D3:=Lib.hid (hsp _ _ _ D2.out (by decide) (by decide) (by decide) (by decide))
     clear ho hsp F2 G2 D2
     unfold RpV
     go_wp2_with fail
     refine hK.out _ _ ⟨F3.out.bw, ?_⟩
     clear hK K
     refine wpAnyH_all (rs:=[7]) (by kernel_rfl) (by simp) fun j hj=> ?_
     obtain rfl:j=7:=by simpa using hj
     clear hj
     refine heldOp rfl fun K hK=> ?_
     go_wp2_with (refine wpList_store_row rfl 49 (.tmp 12) (.tmp 45) rfl x1.heap.size (rpCells N.2).toArray rfl rfl 49 _ D3.out S9.out rfl O9.out ?_)
     refine at_world (fun X=>Off wd X g a ac b F.V F.vc cs5 N.1 op se∧BoxN X x1.heap.size 49 (rpCells N.2).toArray) ⟨F3.out.new (grownBy_setRow D3.out _).1 (Tag.of_box D3.out) hrq (by decide) (by decide) (by decide) (by decide),(grownBy_setRow D3.out _).2⟩ fun x4 hX=> ?_
     refine hK.out _ _ ⟨hX.1.bw, ?_⟩
     clear hK K
     refine wpAnyH_done (by kernel_rfl) ?_ _
     go_wp2_with fail
     go_meet
     exact⟨_,rfl,hX.1.bw,hrq,hX.2,_,hX.1⟩
   ·refine heldOp rfl fun K hK=> ?_
    go_wp2_with fail
    refine at_world (fun X=>(Off wd X g a ac b F.V F.vc cs s op se∧QOwn wd.heap.size X cs s.qs)∧BoxN X x0.heap.size 49 #[.int .i64 0,.int .i64 0,.int .i64 0,.int .i64 0,.int .u32 0,.int .u32 0,.int .u64 0,.int .u64 0,.int .i64 0]∧wd.heap.size≤x0.heap.size) ⟨⟨F0.out.up (ba _ _),G0.out.up (ba _ _)⟩,BoxN.new _ _ _,F0.out.bw.size⟩ fun x1 hX=> ?_
    have F1:=Lib.hid hX.1.1
    have G1:=Lib.hid hX.1.2
    have D1:=Lib.hid hX.2.1
    have hrq:=hX.2.2
    clear hX F0 G0
    refine hK.out _ _ ⟨F1.out.bw, ?_⟩
    clear hK K
    refine wpAnyH_all (rs:=[0]) (by kernel_rfl) (by simp) fun j hj=> ?_
    obtain rfl:j=0:=by simpa using hj
    clear hj
    refine heldOp rfl fun K hK=> ?_
    go_wp2_with fail
    refine(C4.out _).mono ?_
    rintro e x2 ⟨rfl,hb⟩
    have F2:=Lib.hid (F1.out.up hb)
    have G2:=Lib.hid (G1.out.up hb)
    have D2:=Lib.hid (D1.out.later hb)
    clear hb F1 G1 D1
    go_wp2_with fail
    refine hK.out _ _ ⟨F2.out.bw, ?_⟩
    clear hK K
    refine wpAnyH_take (i:=3) (v:=fnV f) rfl (by kernel_rfl) (by kernel_rfl) (by kernel_rfl) (fun _ _ _ h=>h) (.inl ⟨rfl,fun W hS=>by have hx:=hidx W;go_simp⟩) F2.out.bw ?_
    unfold fnV
    refine wpAnyH_all (rs:=[5]) (by kernel_rfl) (by simp) fun j hj=> ?_
    obtain rfl:j=5:=by simpa using hj
    clear hj
    refine heldOp rfl fun K hK=> ?_
    go_wp2_with fail
    refine(HC.out _ cs F2.out G2.out).mono ?_
    rintro e x3 ⟨rfl,⟨cs5,ho⟩,hsp⟩
    have F3:=Lib.hid ho
    have D3:=Lib.hid (hsp _ _ _ D2.out (by decide) (by decide) (by decide) (by decide))
    clear ho hsp F2 G2 D2
    unfold RpV
    go_wp2_with fail
    refine hK.out _ _ ⟨F3.out.bw, ?_⟩
    clear hK K
    refine wpAnyH_all (rs:=[7]) (by kernel_rfl) (by simp) fun j hj=> ?_
    obtain rfl:j=7:=by simpa using hj
    clear hj
    refine heldOp rfl fun K hK=> ?_
    go_wp2_with (refine wpList_store_row rfl 49 (.tmp 12) (.tmp 45) rfl x0.heap.size (rpCells N.2).toArray rfl rfl 49 _ D3.out S9.out rfl O9.out ?_)
    refine at_world (fun X=>Off wd X g a ac b F.V F.vc cs5 N.1 op se∧BoxN X x0.heap.size 49 (rpCells N.2).toArray) ⟨F3.out.new (grownBy_setRow D3.out _).1 (Tag.of_box D3.out) hrq (by decide) (by decide) (by decide) (by decide),(grownBy_setRow D3.out _).2⟩ fun x4 hX=> ?_
    refine hK.out _ _ ⟨hX.1.bw, ?_⟩
    clear hK K
    refine wpAnyH_done (by kernel_rfl) ?_ _
    go_wp2_with fail
    go_meet
    exact⟨_,rfl,hX.1.bw,hrq,hX.2,_,hX.1⟩
  case rest=>
   obtain⟨rq,rfl,hb5,hrq,hbx,cs',ho⟩:=hcut
   have BX:=Lib.hid (BD.out.trans (hb5.mono BD.out.size))
   have K1:=Lib.hid (Q1.out.later hb5)
   have K3:=Lib.hid (Q3.out.later hb5)
   have K4:=Lib.hid (Q4.out.later hb5)
   have KR:=Lib.hid hbx
   have HO5:=Lib.hid ho
   have n1:=Q1.out.lt
   have n3:=Q3.out.lt
   have n4:=Q4.out.lt
   have r0:=hbx.cell 0 (.int .i64 N.2.err) rfl
   have zr:=hbx.lt
   have S9:=rp_s (ms:=rpCells N.2) rfl
   have S9A:=rp_S (ms:=rpCells N.2) rfl
   have O9:=rp_o (ms:=rpCells N.2) rfl
   clear HOF HQO hb5 hbx ho BD Q1 Q2 Q3 Q4 e0 hidx hent HC HNQ C4
   by_cases t0:N.2.err=0
   case neg=>
    have e1:(N.2.err !=0)=true:=by simpa using t0
    have hM1:=Lib.hid (show M=(s,N.2,0) by rw[hM.out,if_pos t0])
    clear hM t0
    go_upto_region 10 with fail
    clear r0 zr
    refine wp_region_held (S:=fun X=>BoxN X q 31 ms.toArray∧BoxN X rq 49 (rpCells N.2).toArray) (by kernel_rfl) ?_
    refine at_world (fun X=>Below w.heap.size w X∧BoxN X q 31 ms.toArray∧BoxN X (q+1+1) 31 #[.int .i64 0,.int .i64 0,.int .i64 0,.slice none 0 0,.int .i64 0,.slice none 0 0,.slice none 0 0]∧BoxN X (q+1+1+1) 49 #[.int .i64 0,.int .i64 0,.int .i64 0,.int .i64 0,.int .u32 0,.int .u32 0,.int .u64 0,.int .u64 0,.int .i64 0]∧BoxN X rq 49 (rpCells N.2).toArray) ⟨bdd BX.out,K1.out,K3.out,K4.out,KR.out⟩ fun y0 hX=> ?_
    have BY:=Lib.hid hX.1
    have Y1:=Lib.hid hX.2.1
    have Y3:=Lib.hid hX.2.2.1
    have Y4:=Lib.hid hX.2.2.2.1
    have YR:=Lib.hid hX.2.2.2.2
    clear hX K1 K3 K4 KR BX
    refine wpAnyH_take (i:=0) rfl (by kernel_rfl) (by kernel_rfl) (by kernel_rfl) (fun _ _ _ h=>h) (yieldsIf_load_mid rfl 31 (.tmp 2) rfl (q) (0) rfl (ms) _ (fun W hb=>hb.1.range2) Tryz.underlying31 rfl (S1.out)) ⟨Y1.out,YR.out⟩ ?_
    refine wpAnyH_take (i:=1) rfl (by kernel_rfl) (by kernel_rfl) (by kernel_rfl) (fun _ _ _ h=>h) (yieldsIf_load_mid rfl 49 (.tmp 12) rfl (rq) (0) rfl (rpCells N.2) _ (fun W hb=>hb.2.range2) Tryz.underlying49 rfl (S9.out)) ⟨Y1.out,YR.out⟩ ?_
    refine wpAnyH_all (rs:=[2]) (by kernel_rfl) (by simp) fun j hj=> ?_
    obtain rfl:j=2:=by simpa using hj
    clear hj
    refine heldOp rfl fun K hK=> ?_
    go_wp2_with (refine wpList_store_row rfl 31 (.tmp 4) (.tmp 49) rfl (q+1+1) ms.toArray rfl rfl 31 _ Y3.out S1A.out L1.out.symm O1.out ?_)
    refine hK.out _ _ ⟨⟨(Y1.out.kept (two_rows Y3.out Y4.out (by omega) ms.toArray (rpCells N.2).toArray).2.1 (fun e=>by injection e with e;omega)),(YR.out.kept (two_rows Y3.out Y4.out (by omega) ms.toArray (rpCells N.2).toArray).2.1 (fun e=>by injection e with e;omega))⟩, ?_⟩
    clear hK K
    refine wpAnyH_all (rs:=[3]) (by kernel_rfl) (by simp) fun j hj=> ?_
    obtain rfl:j=3:=by simpa using hj
    clear hj
    refine heldOp rfl fun K hK=> ?_
    go_wp2_with (refine wpList_store_row rfl 49 (.tmp 5) (.tmp 50) rfl (q+1+1+1) (rpCells N.2).toArray rfl rfl 49 _ (two_rows Y3.out Y4.out (by omega) ms.toArray #[]).1 S9A.out rfl O9.out ?_)
    refine hK.out _ _ ⟨⟨((Y1.out.kept (two_rows Y3.out Y4.out (by omega) ms.toArray (rpCells N.2).toArray).2.1 (fun e=>by injection e with e;omega)).kept (two_rows Y3.out Y4.out (by omega) ms.toArray (rpCells N.2).toArray).2.2.1 (fun e=>by injection e with e;omega)),((YR.out.kept (two_rows Y3.out Y4.out (by omega) ms.toArray (rpCells N.2).toArray).2.1 (fun e=>by injection e with e;omega)).kept (two_rows Y3.out Y4.out (by omega) ms.toArray (rpCells N.2).toArray).2.2.1 (fun e=>by injection e with e;omega))⟩, ?_⟩
    clear hK K
    refine wpAnyH_all (rs:=[4]) (by kernel_rfl) (by simp) fun j hj=> ?_
    obtain rfl:j=4:=by simpa using hj
    clear hj
    refine heldOp rfl fun K hK=> ?_
    go_wp2_with fail
    refine hK.out _ _ ⟨⟨((Y1.out.kept (two_rows Y3.out Y4.out (by omega) ms.toArray (rpCells N.2).toArray).2.1 (fun e=>by injection e with e;omega)).kept (two_rows Y3.out Y4.out (by omega) ms.toArray (rpCells N.2).toArray).2.2.1 (fun e=>by injection e with e;omega)),((YR.out.kept (two_rows Y3.out Y4.out (by omega) ms.toArray (rpCells N.2).toArray).2.1 (fun e=>by injection e with e;omega)).kept (two_rows Y3.out Y4.out (by omega) ms.toArray (rpCells N.2).toArray).2.2.1 (fun e=>by injection e with e;omega))⟩, ?_⟩
    clear hK K
    refine wpAnyH_done (by kernel_rfl) ?_ _
    go_wp2_with fail
    have hrow:=two_rows Y3.out Y4.out (by omega) ms.toArray (rpCells N.2).toArray
    refine at_world (fun Y=>Below w.heap.size w Y∧BoxN Y (q+1+1) 31 ms.toArray∧BoxN Y (q+1+1+1) 49 (rpCells N.2).toArray) ⟨(BY.out.grown hrow.2.1 BY.out.size (fun k hk=>by injection hk with hk;omega)).grown hrow.2.2.1 (by have:=BY.out.size;simp;omega) (fun k hk=>by injection hk with hk;omega),hrow.2.2.2.1,hrow.2.2.2.2⟩ fun Y hY=> ?_
    clear hrow
    have k3:=hY.2.1
    have k4:=hY.2.2
    rw[HMS.out] at k3
    have gg:=k3.x7
    have uu:=k4.x9
    clear k3 k4
    exact bodyPost_ret (v:=.tuple #[mdV F s,RpV N.2,.int .i64 0]) (by simp[results,Tryz.results32,go_sem,mdV,RpV,rpCells,gg,uu]) rfl (show DoPost lo w s op _ _ from⟨F,by rw[HDO.out,hM1.out],hY.1,by rw[HDO.out,hM1.out];exact HK.out.up (Loose.of hY.1)⟩)
   have e1:(N.2.err !=0)=false:=by simpa using t0
   have hM1:=Lib.hid (show M=(N.1,N.2,0) by rw[hM.out,if_neg (by simpa using t0)])
   clear hM t0
   obtain⟨ns,hns⟩:∃ns:List Value,ns=mdCells ⟨F.V,F.vc,some ⟨a,0,none⟩,ac,some ⟨b,0,none⟩,N.1.qs.length⟩ N.1:=⟨_,rfl⟩
   have HNS:=Lib.hid hns
   have SN:=md_s hns
   have SNA:=md_S hns
   have LN:=md_l hns
   have ON:=md_o hns
   clear hns
   have hgB:=HO5.out.gB
   go_upto_region 11 with fail
   clear r0 zr
   refine wp_region_held (S:=fun X=>X.rangeAt g 0 ns∧BoxN X rq 49 (rpCells N.2).toArray) (by kernel_rfl) ?_
   refine at_world (fun X=>Below w.heap.size w X∧BoxN X g 126 (offCells F.V F.vc a ac b N.1 op se).toArray∧BoxN X (q+1+1) 31 #[.int .i64 0,.int .i64 0,.int .i64 0,.slice none 0 0,.int .i64 0,.slice none 0 0,.slice none 0 0]∧BoxN X (q+1+1+1) 49 #[.int .i64 0,.int .i64 0,.int .i64 0,.int .i64 0,.int .u32 0,.int .u32 0,.int .u64 0,.int .u64 0,.int .i64 0]∧BoxN X rq 49 (rpCells N.2).toArray∧MdMem X a ac b cs' N.1) ⟨bdd BX.out,HO5.out.box,K3.out,K4.out,KR.out,HO5.out.mem.drew⟩ fun y0 hX=> ?_
   have BY:=Lib.hid hX.1
   have Y1:=Lib.hid hX.2.1
   have Y3:=Lib.hid hX.2.2.1
   have Y4:=Lib.hid hX.2.2.2.1
   have YR:=Lib.hid hX.2.2.2.2.1
   have YM:=Lib.hid hX.2.2.2.2.2
   have hRG:∀X,BoxN X g 126 (offCells F.V F.vc a ac b N.1 op se).toArray→X.rangeAt g 0 ns:=fun X h=>by rw[HNS.out];exact off_range h
   have zg:=Y1.out.lt
   have HRG:=Lib.hid hRG
   clear hX K1 K3 K4 KR BX hRG
   refine wpAnyH_take (i:=0) (v:=.pointer (some ⟨g,0,none⟩)) rfl (by kernel_rfl) (by kernel_rfl) (by kernel_rfl) (fun _ _ _ h=>h) (.inl ⟨rfl,fun W hS=>by go_simp⟩) ⟨HRG.out _ Y1.out,YR.out⟩ ?_
   refine wpAnyH_take (i:=1) (v:=.pointer (some ⟨g,0,none⟩)) rfl (by kernel_rfl) (by kernel_rfl) (by kernel_rfl) (fun _ _ _ h=>h) (.inl ⟨rfl,fun W hS=>by go_simp⟩) ⟨HRG.out _ Y1.out,YR.out⟩ ?_
   refine wpAnyH_take (i:=2) (v:=.pointer (some ⟨g,0,none⟩)) rfl (by kernel_rfl) (by kernel_rfl) (by kernel_rfl) (fun _ _ _ h=>h) (.inl ⟨rfl,fun W hS=>by go_simp⟩) ⟨HRG.out _ Y1.out,YR.out⟩ ?_
   refine wpAnyH_take (i:=3) rfl (by kernel_rfl) (by kernel_rfl) (by kernel_rfl) (fun _ _ _ h=>h) (yieldsIf_load_mid rfl 31 (.tmp 53) rfl (g) (0) rfl (ns) _ (fun W hb=>hb.1) Tryz.underlying31 rfl (SN.out)) ⟨HRG.out _ Y1.out,YR.out⟩ ?_
   refine wpAnyH_take (i:=4) rfl (by kernel_rfl) (by kernel_rfl) (by kernel_rfl) (fun _ _ _ h=>h) (yieldsIf_load_mid rfl 49 (.tmp 12) rfl (rq) (0) rfl (rpCells N.2) _ (fun W hb=>hb.2.range2) Tryz.underlying49 rfl (S9.out)) ⟨HRG.out _ Y1.out,YR.out⟩ ?_
   refine wpAnyH_all (rs:=[5]) (by kernel_rfl) (by simp) fun j hj=> ?_
   obtain rfl:j=5:=by simpa using hj
   clear hj
   refine heldOp rfl fun K hK=> ?_
   go_wp2_with (refine wpList_store_row rfl 31 (.tmp 4) (.tmp 54) rfl (q+1+1) ns.toArray rfl rfl 31 _ Y3.out SNA.out LN.out.symm ON.out ?_)
   refine hK.out _ _ ⟨⟨HRG.out _ (Y1.out.kept (two_rows Y3.out Y4.out (by omega) ns.toArray (rpCells N.2).toArray).2.1 (fun e=>by injection e with e;omega)),(YR.out.kept (two_rows Y3.out Y4.out (by omega) ns.toArray (rpCells N.2).toArray).2.1 (fun e=>by injection e with e;omega))⟩, ?_⟩
   clear hK K
   refine wpAnyH_all (rs:=[6]) (by kernel_rfl) (by simp) fun j hj=> ?_
   obtain rfl:j=6:=by simpa using hj
   clear hj
   refine heldOp rfl fun K hK=> ?_
   go_wp2_with (refine wpList_store_row rfl 49 (.tmp 5) (.tmp 55) rfl (q+1+1+1) (rpCells N.2).toArray rfl rfl 49 _ (two_rows Y3.out Y4.out (by omega) ns.toArray #[]).1 S9A.out rfl O9.out ?_)
   refine hK.out _ _ ⟨⟨HRG.out _ ((Y1.out.kept (two_rows Y3.out Y4.out (by omega) ns.toArray (rpCells N.2).toArray).2.1 (fun e=>by injection e with e;omega)).kept (two_rows Y3.out Y4.out (by omega) ns.toArray (rpCells N.2).toArray).2.2.1 (fun e=>by injection e with e;omega)),((YR.out.kept (two_rows Y3.out Y4.out (by omega) ns.toArray (rpCells N.2).toArray).2.1 (fun e=>by injection e with e;omega)).kept (two_rows Y3.out Y4.out (by omega) ns.toArray (rpCells N.2).toArray).2.2.1 (fun e=>by injection e with e;omega))⟩, ?_⟩
   clear hK K
   refine wpAnyH_all (rs:=[7]) (by kernel_rfl) (by simp) fun j hj=> ?_
   obtain rfl:j=7:=by simpa using hj
   clear hj
   refine heldOp rfl fun K hK=> ?_
   go_wp2_with fail
   refine hK.out _ _ ⟨⟨HRG.out _ ((Y1.out.kept (two_rows Y3.out Y4.out (by omega) ns.toArray (rpCells N.2).toArray).2.1 (fun e=>by injection e with e;omega)).kept (two_rows Y3.out Y4.out (by omega) ns.toArray (rpCells N.2).toArray).2.2.1 (fun e=>by injection e with e;omega)),((YR.out.kept (two_rows Y3.out Y4.out (by omega) ns.toArray (rpCells N.2).toArray).2.1 (fun e=>by injection e with e;omega)).kept (two_rows Y3.out Y4.out (by omega) ns.toArray (rpCells N.2).toArray).2.2.1 (fun e=>by injection e with e;omega))⟩, ?_⟩
   clear hK K
   refine wpAnyH_done (by kernel_rfl) ?_ _
   go_wp2_with fail
   have hrow:=two_rows Y3.out Y4.out (by omega) ns.toArray (rpCells N.2).toArray
   refine at_world (fun Y=>Below w.heap.size w Y∧BoxN Y (q+1+1) 31 ns.toArray∧BoxN Y (q+1+1+1) 49 (rpCells N.2).toArray∧MdMem Y a ac b cs' N.1) ⟨(BY.out.grown hrow.2.1 BY.out.size (fun k hk=>by injection hk with hk;omega)).grown hrow.2.2.1 (by have:=BY.out.size;simp;omega) (fun k hk=>by injection hk with hk;omega),hrow.2.2.2.1,hrow.2.2.2.2,(YM.out.kept hrow.2.1 (Tag.of_box Y3.out) (by decide) (by decide) (by decide)).kept hrow.2.2.1 (Tag.of_box hrow.1) (by decide) (by decide) (by decide)⟩ fun Y hY=> ?_
   clear hrow
   have k3:=hY.2.1
   have k4:=hY.2.2.1
   rw[HNS.out] at k3
   have gg:=k3.x7
   have uu:=k4.x9
   clear k3 k4
   exact bodyPost_ret (v:=.tuple #[mdV ⟨F.V,F.vc,some ⟨a,0,none⟩,ac,some ⟨b,0,none⟩,N.1.qs.length⟩ N.1,RpV N.2,.int .i64 0]) (by simp[results,Tryz.results32,go_sem,mdV,RpV,rpCells,gg,uu]) rfl (show DoPost lo w s op _ _ from⟨_,by rw[HDO.out,hM1.out],hY.1,by rw[HDO.out,hM1.out];exact fun Z hZ=>(hY.2.2.2.same hZ).isMd (by rw[HVE.out.1];exact(HK.out Z ((Loose.of hY.1).trans hZ)).secs) (by rw[HVE.out.2.2];have:=HOK.out.nqs;omega) HO5.out.bv HO5.out.bn⟩)
end Go.Proofs.YtlckmjiioohcmaaGreatDoor
namespace Go.Proofs.YtlckmjiioohcmaaGreatDoor
open Go.RowKit
def mdoM (s:Md) (op:MOp):Md×MRp×Int:=if checkM s≠0 then(s,noRp,checkM s) else doM s op
def MDoPost (lo:Nat) (w:World) (s:Md) (op:MOp) (e:Ending) (w':World):Prop:=
 ∃F,e=.returned (.tuple #[mdV F (mdoM s op).1,RpV (mdoM s op).2.1,.int .i64 (mdoM s op).2.2])∧Below w.heap.size w w'∧MdKeep lo w' F (mdoM s op).1
end Go.Proofs.YtlckmjiioohcmaaGreatDoor
namespace Go.Proofs.YtlckmjiioohcmaaGreatDoor
open Go.RowKit
def opR:Rep MOp where
 size:=12
 is _ cs x:=cs=opCells x∧OpOk x
 len h:=by rw[h.1];rfl
 one h:=by rw[h.1];simp[opCells,Value.oneCell']
 up _ h:=h
def rpR:Rep MRp where
 size:=9
 is _ cs x:=cs=rpCells x
 len h:=by rw[h];rfl
 one h:=by rw[h];simp[rpCells,Value.oneCell']
 up _ h:=h
theorem rpR_flat:rpR.flat:=fun _ _ _ _ h=>h
theorem rp_one (w:World) (g:Nat) (r:MRp) (hg:g=w.heap.size):Sl rpR (w.alloc (.cells (rpCells r).toArray 49)) (.slice (some ⟨g,0,none⟩) 1 1) [r]:=
 (Own.lit (R:=rpR) (B:=0) (e:=49) (w:=w) (cells:=rpCells r) (xs:=[r]) hg (Nat.zero_le _) (Rep.many_one (R:=rpR) rfl) rfl (by simp)).sl
theorem infoRp:(Tryz.prog.info? 49).map (fun i=>(i.zero,i.size,i.bytes))=some (some (.agg #[.int .i64 0,.int .i64 0,.int .i64 0,.int .i64 0,.int .u32 0,.int .u32 0,.int .u64 0,.int .u64 0,.int .i64 0]),rpR.size,64):=by kernel_rfl
def runTo (s:Md) (ops:List MOp):Md×List MRp:=ops.foldl (fun(m:Md×List MRp) op=>((doM m.1 op).1,m.2++[(doM m.1 op).2.1])) (s,[])
theorem runTo_snoc (s:Md) (l:List MOp) (op:MOp):runTo s (l++[op])=((doM (runTo s l).1 op).1,(runTo s l).2++[(doM (runTo s l).1 op).2.1]):=by simp[runTo]
theorem runTo_ok {s:Md} (h:MdOk s) (l:List MOp):MdOk (runTo s l).1:=by
 unfold runTo
 have:∀(l:List MOp) (m:Md×List MRp),MdOk m.1→MdOk (l.foldl (fun(m:Md×List MRp) op=>((doM m.1 op).1,m.2++[(doM m.1 op).2.1])) m).1:=by
  intro l
  induction l with
  |nil=>intro m h;exact h
  |cons op l ih=>intro m h;exact ih _ (h.do_ op)
 exact this l _ h
theorem runTo_len (s:Md) (l:List MOp):(runTo s l).2.length=l.length:=by
 unfold runTo
 have:∀(l:List MOp) (m:Md×List MRp),(l.foldl (fun(m:Md×List MRp) op=>((doM m.1 op).1,m.2++[(doM m.1 op).2.1])) m).2.length=m.2.length+l.length:=by
  intro l
  induction l with
  |nil=>intro m;rfl
  |cons op l ih=>intro m;rw[List.foldl_cons,ih];simp;omega
 rw[this];simp
def playM (s:Md) (ops:List MOp):Md×List MRp×Int:=if checkM s≠0 then(s,[],checkM s) else if 400<ops.length then(s,[],3) else if(ops.any fun op=>plCheckM op !=0)=true then(s,[],2) else((runTo s ops).1,(runTo s ops).2,0)
theorem plCheckM_val (op:MOp):plCheckM op=0∨plCheckM op=2:=by
 unfold plCheckM
 split
 ·exact .inr rfl
 ·split
  ·exact .inr rfl
  ·exact .inl rfl
theorem targetM_err (op:MOp):(targetM op).2.2=plCheckM op:=by
 unfold targetM
 by_cases h:plCheckM op≠0
 ·rw[if_pos h]
 ·rw[if_neg h]
  have h':=Decidable.not_not.1 h
  split
  ·exact h'.symm
  split
  ·exact h'.symm
  split<;>exact h'.symm
theorem doM_err (s:Md) (op:MOp):(doM s op).2.2=plCheckM op:=by
 rw[←targetM_err]
 unfold doM
 split
 ·rfl
 rename_i h
 have h':=Decidable.not_not.1 h
 split
 ·exact h'.symm
 split<;>exact h'.symm
theorem two_boxes {W:World} {q:Nat} (hq:W.heap.size=q) (c1 c2:Array Value) (t1 t2:TypeId):
 Below W.heap.size W ((W.alloc (.cells c1 t1)).alloc (.cells c2 t2))∧BoxN ((W.alloc (.cells c1 t1)).alloc (.cells c2 t2)) q t1 c1∧BoxN ((W.alloc (.cells c1 t1)).alloc (.cells c2 t2)) (q+1) t2 c2:=by
 subst hq
 have e1:(W.alloc (.cells c1 t1)).heap.size=W.heap.size+1:=by simp
 exact⟨bal (bal (Below.refl _ _)),(BoxN.new W t1 c1).alloc _,e1▸BoxN.new (W.alloc (.cells c1 t1)) t2 c2⟩
theorem Loose.own {α:Type} {R:Rep α} {lo B:Nat} {W Y:World} {v:Value} {xs:List α} {e:TypeId} (hg:W.grownBy Y v.ownBlock) (ho:Own R e B W v xs) (hl:lo≤B) (n2:e≠81) (n3:e≠85) (n4:e≠41):Loose lo W Y:=by
 cases hv:v.ownBlock with
 |none=>
  rw[hv] at hg
  exact Loose.of ⟨hg.os,hg.tape,hg.output,hg.size,fun k hk=>hg.block k hk (fun e=>by cases e)⟩
 |some x=>
  rw[hv] at hg
  have hB:=(ho.lt x hv).1
  have ht:Tag W x e:=by
   obtain⟨_,ho,_⟩:=ho
   rcases ho.2 with⟨rfl,_⟩|⟨g,cap,cur,rfl,_,h,_⟩
   ·cases hv
   ·cases hv
    exact⟨_,_,h⟩
  exact Loose.grown hg ht (by omega) n2 n3 n4
def PlayPost (lo:Nat) (w:World) (s:Md) (ops:List MOp) (e:Ending) (w':World):Prop:=
 ∃F v,e=.returned (.tuple #[mdV F (playM s ops).1,v,.int .i64 (playM s ops).2.2])∧Own rpR 49 w.heap.size w' v (playM s ops).2.1∧Below w.heap.size w w'∧MdKeep lo w' F (playM s ops).1
set_option maxHeartbeats 4000000 in
set_option maxRecDepth 20000 in
theorem play_any (lo:Nat) (F:MFrm) (s:Md) (A:Option Addr) (c:Nat) (ops:List MOp) (w:World) (hk:MdKeep lo w F s) (hlo:lo≤w.heap.size) (hn:s.qs.length≤1000∧∀l,l∈s.qs→l.length≤1000) (ho:Sl opR w (.slice A ops.length c) ops) (hu:UsesAt w):
 Calls Tryz.prog 12 #[mdV F s,.slice A ops.length c] w (PlayPost lo w s ops):=by
 have hM:=Lib.hid (show playM s ops=if checkM s≠0 then(s,[],checkM s) else if 400<ops.length then(s,[],3) else if(ops.any fun op=>plCheckM op !=0)=true then(s,[],2) else((runTo s ops).1,(runTo s ops).2,0) from rfl)
 have C1:=Lib.hid (fun W (hb:Below w.heap.size w W)=>mcheck_any F s W (hk.isMd.up hb) hn)
 have HC:=Lib.hid (@checkM_ok s)
 have HK:=Lib.hid hk
 have HU:=Lib.hid hu
 obtain⟨_,_,he,hc1,hc2,_⟩:=id ho
 have HL:=Lib.hid ho
 generalize hdo:playM s ops=M at hM
 have HDO:=Lib.hid hdo
 have hlen:ops.length≤9223372036854775807:=by injection he;omega
 clear hk hu hdo hn ho he hc1 hc2
 generalize checkM s=E at hM C1 HC
 obtain⟨ms,hms⟩:∃ms:List Value,ms=mdCells F s:=⟨_,rfl⟩
 rw[show mdV F s=.agg ms.toArray by rw[hms];rfl] at C1⊢
 have HMS:=Lib.hid hms
 have S1:=md_s hms
 have S1A:=md_S hms
 have L1:=md_l hms
 have O1:=md_o hms
 clear hms
 go_enter Tryz.func12,Tryz.ntmps12
 go_upto_region 1 with fail
 obtain⟨q,hq⟩:∃q,w.heap.size=q:=⟨_,rfl⟩
 rw[hq]
 refine at_world (fun X=>Below w.heap.size w X∧BoxN X q 31 ms.toArray∧BoxN X (q+1) 31 #[.int .i64 0,.int .i64 0,.int .i64 0,.slice none 0 0,.int .i64 0,.slice none 0 0,.slice none 0 0]) (two_boxes hq _ _ _ _) fun w0 hw0=> ?_
 obtain⟨hb0,k1,k4⟩:=hw0
 have B0:=Lib.hid hb0
 have K1:=Lib.hid k1
 have K4:=Lib.hid k4
 have hwq:w.heap.size=q:=hq
 clear hb0 k1 k4 hq
 go_wp2_with (refine wpList_load_mid rfl 31 (.tmp 2) rfl q 0 rfl ms _ K1.out.range2 Tryz.underlying31 rfl S1.out ?_)
 refine(C1.out _ B0.out).mono ?_
 rintro e w1 ⟨rfl,hb⟩
 have B1:=Lib.hid (B0.out.trans (hb.mono B0.out.size))
 have P1:=Lib.hid (K1.out.later hb)
 have P4:=Lib.hid (K4.out.later hb)
 clear hb B0 K1 K4 C1
 by_cases t0:E=0
 case neg=>
  have e1:(E !=0)=true:=by simpa using t0
  have hM1:=Lib.hid (show M=(s,[],E) by rw[hM.out,if_pos t0])
  clear hM t0
  go_wp2_with (first|refine wpList_load_mid rfl 31 (.tmp 2) rfl q 0 rfl ms _ P1.out.range2 Tryz.underlying31 rfl S1.out ?_|refine wpList_store_row rfl 31 (.tmp 4) (.tmp 19) rfl (q+1) ms.toArray rfl rfl 31 _ P4.out S1A.out L1.out.symm O1.out ?_)
  have hrow:=grownBy_setRow P4.out ms.toArray
  refine at_world (fun Y=>Below w.heap.size w Y∧BoxN Y (q+1) 31 ms.toArray) ⟨B1.out.grown hrow.1 B1.out.size (fun k hk=>by injection hk with hk;omega),hrow.2⟩ fun Y hY=> ?_
  clear hrow
  have k3:=hY.2
  rw[HMS.out] at k3
  have gg:=k3.x7
  clear k3
  exact bodyPost_ret (v:=.tuple #[mdV F s,.slice none 0 0,.int .i64 E]) (by simp[results,Tryz.results12,go_sem,mdV,gg]) rfl (show PlayPost lo w s ops _ _ from⟨F,.slice none 0 0,by rw[HDO.out,hM1.out],by rw[HDO.out,hM1.out];exact Own.nil _ _ _ _,hY.1,by rw[HDO.out,hM1.out];exact HK.out.up (Loose.of hY.1)⟩)
 subst t0
 have HOK:=Lib.hid (HC.out.1 rfl)
 replace hM:=Lib.hid (show M=if 400<ops.length then(s,[],3) else if(ops.any fun op=>plCheckM op !=0)=true then(s,[],2) else((runTo s ops).1,(runTo s ops).2,0) by rw[hM.out,if_neg (by simp)])
 clear HC
 by_cases t1:400<ops.length
 ·have e1:decide ((400:Int)<(ops.length:Int))=true:=by simp;omega
  have hM1:=Lib.hid (show M=(s,[],3) by rw[hM.out,if_pos t1])
  clear hM
  go_wp2_with (first|refine wpList_load_mid rfl 31 (.tmp 2) rfl q 0 rfl ms _ P1.out.range2 Tryz.underlying31 rfl S1.out ?_|refine wpList_store_row rfl 31 (.tmp 4) (.tmp 24) rfl (q+1) ms.toArray rfl rfl 31 _ P4.out S1A.out L1.out.symm O1.out ?_)
  have hrow:=grownBy_setRow P4.out ms.toArray
  refine at_world (fun Y=>Below w.heap.size w Y∧BoxN Y (q+1) 31 ms.toArray) ⟨B1.out.grown hrow.1 B1.out.size (fun k hk=>by injection hk with hk;omega),hrow.2⟩ fun Y hY=> ?_
  clear hrow
  have k3:=hY.2
  rw[HMS.out] at k3
  have gg:=k3.x7
  clear k3
  exact bodyPost_ret (v:=.tuple #[mdV F s,.slice none 0 0,.int .i64 3]) (by simp[results,Tryz.results12,go_sem,mdV,gg]) rfl (show PlayPost lo w s ops _ _ from⟨F,.slice none 0 0,by rw[HDO.out,hM1.out],by rw[HDO.out,hM1.out];exact Own.nil _ _ _ _,hY.1,by rw[HDO.out,hM1.out];exact HK.out.up (Loose.of hY.1)⟩)
 have e1:decide ((400:Int)<(ops.length:Int))=false:=by simp;omega
 replace hM:=Lib.hid (show M=if(ops.any fun op=>plCheckM op !=0)=true then(s,[],2) else((runTo s ops).1,(runTo s ops).2,0) by rw[hM.out,if_neg t1])
 have HN:=Lib.hid (show ops.length≤400 by omega)
 clear t1
 go_upto_region 7 with(first|refine wpList_load_mid rfl 31 (.tmp 2) rfl q 0 rfl ms _ P1.out.range2 Tryz.underlying31 rfl S1.out ?_|refine wpList_store_row rfl 31 (.tmp 8) (.tmp 25) rfl w1.heap.size ms.toArray rfl rfl 31 _ (BoxN.new _ _ _) S1A.out L1.out.symm O1.out ?_)
 obtain⟨q8,hq8⟩:∃q8,w1.heap.size=q8:=⟨_,rfl⟩
 have hq8':w.heap.size≤q8:=by rw[←hq8];exact B1.out.size
 rw[hq8]
 have hbr:=box_row2 w1 #[.int .i64 0,.int .i64 0,.int .i64 0,.slice none 0 0,.int .i64 0,.slice none 0 0,.slice none 0 0] ms 31
 have hgr:=grownBy_setRow (BoxN.new w1 31 #[.int .i64 0,.int .i64 0,.int .i64 0,.slice none 0 0,.int .i64 0,.slice none 0 0,.slice none 0 0]) ms.toArray
 rw[hq8] at hbr hgr
 refine at_world (fun X=>Below w1.heap.size w1 X∧BoxN X q8 31 ms.toArray) ⟨by rw[hq8];exact hbr.1,hgr.2⟩ fun w2 hw2=> ?_
 have B2:=Lib.hid (B1.out.trans (hw2.1.mono B1.out.size))
 have R1:=Lib.hid (P1.out.later hw2.1)
 have R4:=Lib.hid (P4.out.later hw2.1)
 have R8:=Lib.hid hw2.2
 have n8:q+1<q8:=by have:=P4.out.lt;omega
 clear hbr hgr hw2 B1 P1 P4 hq8
 go_wp2_with fail
 go_loopw [9,28] (fun v i wr=> ∃(k:Nat) (Fk:MFrm),k≤ops.length∧i=.int .i64 (k:Int)∧Hid (Own rpR 49 w.heap.size wr v (runTo s (ops.take k)).2)∧Hid (Below w.heap.size w wr)∧Hid (BoxN wr q 31 ms.toArray)∧Hid (BoxN wr (q+1) 31 #[.int .i64 0,.int .i64 0,.int .i64 0,.slice none 0 0,.int .i64 0,.slice none 0 0,.slice none 0 0])∧Hid (BoxN wr q8 31 (mdCells Fk (runTo s (ops.take k)).1).toArray)∧Hid (MdKeep lo wr Fk (runTo s (ops.take k)).1)∧Hid (∀j,(hj:j<ops.length)→j<k→plCheckM ops[j]=0)) (fun _ i _=>ops.length-(intOf i).toNat)
 case atStart=>exact⟨0,F,by omega,rfl,Lib.hid (Own.nil _ _ _ _),B2,R1,R4,Lib.hid (show BoxN w2 q8 31 (mdCells F s).toArray by rw[←HMS.out];exact R8.out),Lib.hid (HK.out.up (Loose.of B2.out)),Lib.hid (fun j _ h=>by omega)⟩
 case round=>
  obtain⟨k,Fk,hk,rfl,HV,HB,HS1,HS4,HS8,HKk,HJ⟩:=hrel
  by_cases hlt:k<ops.length
  case neg=>
   obtain rfl:k=ops.length:=by omega
   have hany:(ops.any fun op=>plCheckM op !=0)=false:=List.any_eq_false.2 fun x hx=>by
    obtain⟨j,hj,rfl⟩:=List.getElem_of_mem hx
    simpa using HJ.out j hj hj
   have hM1:=Lib.hid (show M=((runTo s ops).1,(runTo s ops).2,0) by rw[hM.out,hany];simp)
   rw[List.take_length] at HV HS8 HKk
   have e3:decide ((ops.length:Int)<(ops.length:Int))=false:=by simp
   generalize runTo s ops=R at hM1 HV HS8 HKk
   have S7:=md_s (ms:=mdCells Fk R.1) rfl
   have S7A:=md_S (ms:=mdCells Fk R.1) rfl
   have O7:=md_o (ms:=mdCells Fk R.1) rfl
   clear hany hM
   go_wp2_with (first|refine wpList_load_mid rfl 31 (.tmp 8) rfl q8 0 rfl (mdCells Fk R.1) _ HS8.out.range2 Tryz.underlying31 rfl S7.out ?_|refine wpList_store_row rfl 31 (.tmp 4) (.tmp 49) rfl (q+1) (mdCells Fk R.1).toArray rfl rfl 31 _ HS4.out S7A.out rfl O7.out ?_)
   have hrow:=grownBy_setRow HS4.out (mdCells Fk R.1).toArray
   refine at_world (fun Y=>Below w.heap.size w Y∧BoxN Y (q+1) 31 (mdCells Fk R.1).toArray∧Own rpR 49 w.heap.size Y u9 R.2∧MdKeep lo Y Fk R.1) ⟨HB.out.grown hrow.1 HB.out.size (fun k hk=>by injection hk with hk;omega),hrow.2,HV.out.kept_box hrow.1 HS4.out (by decide) rpR_flat,HKk.out.up (Loose.grown hrow.1 (Tag.of_box HS4.out) (by omega) (by decide) (by decide) (by decide))⟩ fun Y hY=> ?_
   clear hrow
   have k3:=hY.2.1
   have gg:=k3.x7
   clear k3
   exact bodyPost_ret (v:=.tuple #[mdV Fk R.1,u9,.int .i64 0]) (by simp[results,Tryz.results12,go_sem,mdV,mdCells,gg]) rfl (show PlayPost lo w s ops _ _ from⟨Fk,u9,by rw[HDO.out,hM1.out],by rw[HDO.out,hM1.out];exact hY.2.2.1,hY.1,by rw[HDO.out,hM1.out];exact hY.2.2.2⟩)
  have hk0:(0:Int)≤(k:Int):=by omega
  have hk1:(k:Int)<(ops.length:Int):=by omega
  obtain⟨bl,off,os,rfl,hbl,⟨hos,hoo⟩,hat⟩:=(HL.out.up HB.out).at_ hlt
  have HAT:=Lib.hid (show wr.rangeAt bl (off+k*12) os from hat)
  have CD:=Lib.hid (fun W hl=>do_any lo Fk (runTo s (ops.take k)).1 ops[k] W (HKk.out.up hl) (runTo_ok HOK.out _) hoo)
  have HSN:=Lib.hid (show runTo s (ops.take (k+1))=_ from(by rw[List.take_succ_eq_append_getElem hlt,runTo_snoc]:runTo s (ops.take (k+1))=((doM (runTo s (ops.take k)).1 ops[k]).1,(runTo s (ops.take k)).2++[(doM (runTo s (ops.take k)).1 ops[k]).2.1])))
  have HER:=Lib.hid (doM_err (runTo s (ops.take k)).1 ops[k])
  have HLN:=Lib.hid (runTo_len s (ops.take k))
  have HPV:=Lib.hid (plCheckM_val ops[k])
  rw[←hos] at CD
  have S2:=Lib.hid (show(Tryz.prog.info? 46).map (·.size)=some os.length by rw[hos];kernel_rfl)
  have S2A:=Lib.hid (show(Tryz.prog.info? 46).map (·.size)=some os.toArray.size by rw[hos];kernel_rfl)
  have L2:=Lib.hid (show os.toArray.size=12 by rw[hos];rfl)
  have O2:=Lib.hid (show os.toArray.all (·.oneCell')=true by rw[hos];simp[opCells,Value.oneCell'])
  unfold DoPost at CD
  generalize hRk:runTo s (ops.take k)=R at HV HS8 HKk CD HSN HER HLN
  generalize doM R.1 ops[k]=N at CD HSN HER
  have HN9:R.2.length≤400:=by have:=HLN.out;have:=HN.out;simp at*;omega
  have S7:=md_s (ms:=mdCells Fk R.1) rfl
  clear hat hos hoo hRk HLN
  go_upto_region 11 with(first|refine wpList_load_mid rfl 46 (.tmp 30) rfl bl (off+k*12) rfl os _ HAT.out Tryz.underlying46 rfl S2.out ?_|refine wpList_store_row rfl 46 (.tmp 11) (.tmp 31) rfl wr.heap.size os.toArray rfl rfl 46 _ (BoxN.new _ _ _) S2A.out L2.out.symm O2.out ?_)
  refine at_world (fun X=>Below wr.heap.size wr X∧BoxN X wr.heap.size 46 os.toArray) ⟨(box_row2 wr #[.int .i64 0,.int .u32 0,.int .i64 0,.int .i64 0,.int .i64 0,.int .i64 0,.int .u32 0,.int .u32 0,.int .u32 0,.int .u64 0,.int .u64 0,.int .i64 0] os 46).1,(grownBy_setRow (BoxN.new wr 46 #[.int .i64 0,.int .u32 0,.int .i64 0,.int .i64 0,.int .i64 0,.int .i64 0,.int .u32 0,.int .u32 0,.int .u32 0,.int .u64 0,.int .u64 0,.int .i64 0]) os.toArray).2⟩ fun x1 hx=> ?_
  have B3:=Lib.hid (HB.out.trans (hx.1.mono HB.out.size))
  have X11:=Lib.hid hx.2
  have X8:=Lib.hid (HS8.out.later hx.1)
  have X1:=Lib.hid (HS1.out.later hx.1)
  have X4:=Lib.hid (HS4.out.later hx.1)
  have XV:=Lib.hid (HV.out.up hx.1)
  have XL:=Lib.hid (show Loose lo wr x1 from Loose.of hx.1)
  generalize wr.heap.size=q11 at X11⊢
  clear hx HB HS1 HS4 HS8 HV HAT S2A L2 O2 hbl
  go_wp2_with (first|refine wpList_load_mid rfl 31 (.tmp 8) rfl q8 0 rfl (mdCells Fk R.1) _ X8.out.range2 Tryz.underlying31 rfl S7.out ?_|refine wpList_load_mid rfl 46 (.tmp 11) rfl q11 0 rfl os _ X11.out.range2 Tryz.underlying46 rfl S2.out ?_)
  refine(CD.out x1 XL.out (HU.out.up B3.out HU.out.1)).mono ?_
  rintro e x2 ⟨F',rfl,hb,hkn⟩
  have B4:=Lib.hid (B3.out.trans (hb.mono B3.out.size))
  have Y8:=Lib.hid (X8.out.later hb)
  have Y1:=Lib.hid (X1.out.later hb)
  have Y4:=Lib.hid (X4.out.later hb)
  have YV:=Lib.hid (XV.out.up hb)
  have HKN:=Lib.hid hkn
  have S7N:=md_s (ms:=mdCells F' N.1) rfl
  have S7A:=md_S (ms:=mdCells F' N.1) rfl
  have O7:=md_o (ms:=mdCells F' N.1) rfl
  have S9:=rp_s (ms:=rpCells N.2.1) rfl
  have S9A:=rp_S (ms:=rpCells N.2.1) rfl
  have O9:=rp_o (ms:=rpCells N.2.1) rfl
  clear hb hkn CD B3 X8 X1 X4 XV X11 XL S7 S2
  unfold mdV RpV
  go_upto_region 12 with(first|refine wpList_store_row rfl 31 (.tmp 12) (.tmp 36) rfl x2.heap.size (mdCells F' N.1).toArray rfl rfl 31 _ (two_boxes rfl _ _ _ _).2.1 S7A.out rfl O7.out ?_|refine wpList_store_row rfl 49 (.tmp 13) (.tmp 37) rfl (x2.heap.size+1) (rpCells N.2.1).toArray rfl rfl 49 _ (two_rows (two_boxes rfl _ _ _ _).2.1 (two_boxes rfl _ _ _ _).2.2 (by omega) _ #[]).1 S9A.out rfl O9.out ?_)
  have htb:=two_boxes (W:=x2) rfl #[.int .i64 0,.int .i64 0,.int .i64 0,.slice none 0 0,.int .i64 0,.slice none 0 0,.slice none 0 0] #[.int .i64 0,.int .i64 0,.int .i64 0,.int .i64 0,.int .u32 0,.int .u32 0,.int .u64 0,.int .u64 0,.int .i64 0] 31 49
  have hrow:=two_rows htb.2.1 htb.2.2 (by omega) (mdCells F' N.1).toArray (rpCells N.2.1).toArray
  refine at_world (fun X=>Below x2.heap.size x2 X∧BoxN X x2.heap.size 31 (mdCells F' N.1).toArray∧BoxN X (x2.heap.size+1) 49 (rpCells N.2.1).toArray) ⟨(htb.1.grown hrow.2.1 htb.1.size (fun k hk=>by injection hk with hk;omega)).grown hrow.2.2.1 (Nat.le_trans htb.1.size hrow.2.1.size) (fun k hk=>by injection hk with hk;omega),hrow.2.2.2.1,hrow.2.2.2.2⟩ fun x3 hx=> ?_
  have B5:=Lib.hid (B4.out.trans (hx.1.mono B4.out.size))
  have Z8:=Lib.hid (Y8.out.later hx.1)
  have Z1:=Lib.hid (Y1.out.later hx.1)
  have Z4:=Lib.hid (Y4.out.later hx.1)
  have ZV:=Lib.hid (YV.out.up hx.1)
  have ZK:=Lib.hid (HKN.out.up (Loose.of hx.1))
  have Z12:=Lib.hid hx.2.1
  have Z13:=Lib.hid hx.2.2
  have hq12:q8<x2.heap.size:=Y8.out.lt
  generalize x2.heap.size=q12 at Z12 Z13 hq12⊢
  clear htb hrow hx B4 Y8 Y1 Y4 YV HKN
  by_cases t2:N.2.2=0
  case neg=>
   have e4:(N.2.2 !=0)=true:=by simpa using t2
   have hE2:N.2.2=2:=by
    rcases HPV.out with h|h
    ·exact absurd (HER.out.trans h) t2
    ·exact HER.out.trans h
   have hany:(ops.any fun op=>plCheckM op !=0)=true:=List.any_eq_true.2 ⟨_,List.getElem_mem hlt,by rw[←HER.out];exact e4⟩
   have hM1:=Lib.hid (show M=(s,[],N.2.2) by rw[hM.out,if_pos hany,hE2])
   clear hany hM t2 hE2
   go_wp2_with (first|refine wpList_load_mid rfl 31 (.tmp 2) rfl q 0 rfl ms _ Z1.out.range2 Tryz.underlying31 rfl S1.out ?_|refine wpList_store_row rfl 31 (.tmp 4) (.tmp 41) rfl (q+1) ms.toArray rfl rfl 31 _ Z4.out S1A.out L1.out.symm O1.out ?_)
   have hrow:=grownBy_setRow Z4.out ms.toArray
   refine at_world (fun Y=>Below w.heap.size w Y∧BoxN Y (q+1) 31 ms.toArray) ⟨B5.out.grown hrow.1 B5.out.size (fun k hk=>by injection hk with hk;omega),hrow.2⟩ fun Y hY=> ?_
   clear hrow
   have k3:=hY.2
   rw[HMS.out] at k3
   have gg:=k3.x7
   clear k3
   exact bodyPost_ret (v:=.tuple #[mdV F s,.slice none 0 0,.int .i64 N.2.2]) (by simp[results,Tryz.results12,go_sem,mdV,mdCells,gg]) rfl (show PlayPost lo w s ops _ _ from⟨F,.slice none 0 0,by rw[HDO.out,hM1.out],by rw[HDO.out,hM1.out];exact Own.nil _ _ _ _,hY.1,by rw[HDO.out,hM1.out];exact HK.out.up (Loose.of hY.1)⟩)
  have e4:(N.2.2 !=0)=false:=by simpa using t2
  have hJ':=Lib.hid (show∀j,(hj:j<ops.length)→j<k+1→plCheckM ops[j]=0 from fun j hj hjk=>by
   by_cases e:j=k
   ·subst e;rw[←HER.out];exact t2
   ·exact HJ.out j hj (by omega))
  clear t2 HJ HPV HER
  go_upto_region 15 with(first|refine wpList_load_mid rfl 31 (.tmp 12) rfl q12 0 rfl (mdCells F' N.1) _ Z12.out.range2 Tryz.underlying31 rfl S7N.out ?_|refine wpList_store_row rfl 31 (.tmp 8) (.tmp 43) rfl q8 (mdCells F' N.1).toArray rfl rfl 31 _ Z8.out S7A.out rfl O7.out ?_)
  have hrow:=grownBy_setRow Z8.out (mdCells F' N.1).toArray
  refine at_world (fun X=>Below w.heap.size w X∧BoxN X q 31 ms.toArray∧BoxN X (q+1) 31 #[.int .i64 0,.int .i64 0,.int .i64 0,.slice none 0 0,.int .i64 0,.slice none 0 0,.slice none 0 0]∧BoxN X q8 31 (mdCells F' N.1).toArray∧BoxN X (q12+1) 49 (rpCells N.2.1).toArray∧Own rpR 49 w.heap.size X u9 R.2∧MdKeep lo X F' N.1) ⟨B5.out.grown hrow.1 B5.out.size (fun k hk=>by injection hk with hk;omega),Z1.out.kept hrow.1 (fun e=>by injection e with e;omega),Z4.out.kept hrow.1 (fun e=>by injection e with e;omega),hrow.2,Z13.out.kept hrow.1 (fun e=>by injection e with e;omega),ZV.out.kept_box hrow.1 Z8.out (by decide) rpR_flat,ZK.out.up (Loose.grown hrow.1 (Tag.of_box Z8.out) (by omega) (by decide) (by decide) (by decide))⟩ fun x4 hx=> ?_
  have V5:=Lib.hid hx.1
  have V1:=Lib.hid hx.2.1
  have V4:=Lib.hid hx.2.2.1
  have V8:=Lib.hid hx.2.2.2.1
  have V13:=Lib.hid hx.2.2.2.2.1
  have VV:=Lib.hid hx.2.2.2.2.2.1
  have VK:=Lib.hid hx.2.2.2.2.2.2
  clear hrow hx B5 Z8 Z1 Z4 ZV ZK Z12 Z13
  have hgo:=V5.out.size
  go_wp2_with (first|refine wpList_load_mid rfl 49 (.tmp 13) rfl (q12+1) 0 rfl [.int .i64 N.2.1.err,.int .i64 N.2.1.seat,.int .i64 N.2.1.n,.int .i64 N.2.1.deadline,.int .u32 N.2.1.tk.seat,.int .u32 N.2.1.tk.owner,.int .u64 N.2.1.tk.serial,.int .u64 N.2.1.tk.epoch,.int .i64 N.2.1.place] _ V13.out.range2 Tryz.underlying49 rfl S9.out ?_|(at_builtin;refine wpList_append_sl _ rfl (.tmp 44) (.tmp 46) 36 rfl rpR w.heap.size 49 _ 64 Tryz.underlying36 infoRp rfl (by decide) _ R.2 rfl (VV.out.up (ba _ _)) _ [N.2.1] rfl (rp_one _ _ N.2.1 rfl) (by simp;omega) (by decide) (by simp[World.size_alloc];omega) (fun w' _ cs y h=>rpR_flat _ _ _ _ h) ?_;intro v1 w7 hown1 hg1 hat1))
  have hba:=ba x4 (.cells (rpCells N.2.1).toArray 49)
  have VV':=VV.out.up hba
  refine⟨⟨k+1,F',by omega,by go_num, ?_, ?_, ?_, ?_, ?_, ?_,hJ'⟩,by simp[intOf];omega⟩
  ·rw[HSN.out];exact Lib.hid hown1
  ·exact Lib.hid ((V5.out.trans (hba.mono V5.out.size)).grown hg1 (by simp[World.size_alloc];omega) (fun j hj=>(VV'.lt j hj).1))
  ·exact Lib.hid ((V1.out.later hba).kept_own hg1 VV' (by decide))
  ·exact Lib.hid ((V4.out.later hba).kept_own hg1 VV' (by decide))
  ·rw[HSN.out];exact Lib.hid ((V8.out.later hba).kept_own hg1 VV' (by decide))
  ·rw[HSN.out];exact Lib.hid (VK.out.up ((Loose.of hba).trans (Loose.own hg1 VV' hlo (by decide) (by decide) (by decide))))
end Go.Proofs.YtlckmjiioohcmaaGreatDoor

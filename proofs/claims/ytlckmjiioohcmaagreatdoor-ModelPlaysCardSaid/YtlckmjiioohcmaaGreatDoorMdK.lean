/-
  Walks of slices.Index, slices.Contains at uint32; of the office's join. Conditions: as each theorem says.
  Walk of slices.Delete at uint32 (one element of a slice of the call's own). Conditions: as the theorem says.
-/
import Derived.Test.YtlckmjiioohcmaaGreatDoorMdI
import Derived.Deep.RegionLaw
namespace Go.Proofs.YtlckmjiioohcmaaGreatDoor
open Go.RowKit
set_option maxHeartbeats 400000 in
theorem indexU_any (y:Int) (v:Value) (xs:List (Int)) (w:World) (hs:Sl u32R w v xs):
 Calls Tryz.prog 139 #[v,.int .u32 y] w fun e w'=>e=.returned (.int .i64 (idxOf (fun x=>y==x) xs))∧w=w':=by
 obtain⟨A,c,rfl,_,hm,hs⟩:=hs.open
 have hlen:xs.length≤9223372036854775807:=by omega
 go_enter Tryz.func139,Tryz.ntmps139
 go_wp2
 go_loop [8] (fun i=> ∃k:Nat,k≤xs.length∧i=.int .i64 k∧Hid (∀j,(hj:j<k)→(hj':j<xs.length)→(y==xs[j])=false)) (fun i=>xs.length-(intOf i).toNat)
 case atStart=>exact⟨0,by omega,rfl,fun j hj=>by omega⟩
 case round=>
  obtain⟨k,hk,rfl,hall⟩:=hrel
  by_cases hlt:k<xs.length
  ·obtain⟨b,off,rfl,hbl,hcell,_⟩:=hs.atU hlt
   clear hs
   cases hq:(y==xs[k]) with
   |true=>
    go_wp2
    go_ret
    exact⟨ret_int (idxOf_hit (p:=fun x=>y==x) hlt hq fun j hj=>hall.out j hj (by omega)).symm,rfl⟩
   |false=>
    go_wp2
    go_round
    case rel=>
     refine⟨k+1,by omega,by go_num,fun j hj hj'=> ?_⟩
     by_cases e:j=k
     ·subst e;exact hq
     ·exact hall.out j (by omega) hj'
    case measure=>simp[intOf];omega
  ·clear hs
   go_wp2
   go_ret
   refine⟨ret_int (idxOf_miss fun x hx=> ?_).symm,rfl⟩
   obtain⟨j,hj,rfl⟩:=List.getElem_of_mem hx
   exact hall.out j (by omega) hj
set_option maxHeartbeats 400000 in
theorem containsU_any (y:Int) (v:Value) (xs:List (Int)) (w:World) (hs:Sl u32R w v xs):
 Calls Tryz.prog 138 #[v,.int .u32 y] w fun e w'=>e=.returned (.bool (xs.any fun x=>y==x))∧w=w':=by
 have C:=Lib.hid (indexU_any y v xs w hs)
 clear hs
 have h1:=Lib.hid (idxOf_any (p:=fun x=>y==x) (xs:=xs))
 generalize idxOf (fun x=>y==x) xs=r at C h1
 go_enter Tryz.func138,Tryz.ntmps138
 go_wp2_with (go_at_call 139;refine C.out.mono ?_;rintro e w' ⟨rfl,rfl⟩)
 go_ret
 exact⟨ret_bool h1.out,rfl⟩
section
variable {P:Program}
theorem step_append_sl {α:Type} {ops:Array Oper} {o:Oper} {a:Act} {w:World} {K:Act→World→Prop} {Q:Exit→Act→World→Prop} {E:Prop} (hgd:o.guard=none) (s y:Operand) (t:TypeId)
 (ho:o.op=.call {callee:=.builtin .append,args:=#[s,y],argTypes:=#[t,t]})
 (R:Rep α) (base:Nat) (e:TypeId) (z:Value) (bytes:Nat) (ht:P.underlying t=some (.slice e))
 (hinfo:(P.info? e).map (fun i=>(i.zero,i.size,i.bytes))=some (some z,R.size,bytes)) (hzs:z.cells.size=R.size) (hsz:0<R.size)
 (v:Value) (xs:List α) (hs:a.eval s=v) (hown:Own R e base w v xs) (x:Value) (ys:List α) (he:a.eval y=x) (hx:Sl R w x ys)
 (hbytes:(xs.length+ys.length)*bytes≤140737488355328) (hby:0<bytes) (hbase:base≤w.heap.size)
 (keep:∀w',w.grownBy w' v.ownBlock→∀cs y,R.is w cs y→R.is w' cs y)
 (h:∀v' w',Own R e base w' v' (xs++ys)→w.grownBy w' v.ownBlock→(v'.ownBlock=v.ownBlock∨v'.ownBlock=some w.heap.size)→K (a.put o.dst v') w'):
 if Region.wanted o (yielded ops a.tmps)=true then Oper.wp P o a w K Q else E:=by
 have hw:Region.wanted o (yielded ops a.tmps)=true:=by simp[Region.wanted,hgd]
 rw[if_pos hw]
 exact wp_append_sl w s y t ho R base e z bytes ht hinfo hzs hsz v xs hs hown x ys he hx hbytes hby hbase keep h
end
structure QOne (B:Nat) (W:World) (cs:List Value) (k:Nat) (A:Option Addr) (c:Nat) (l:List Int):Prop where
 at_:cs[k]?=some (.slice A l.length c)
 own:Own u32R 41 B W (.slice A l.length c) l
 sep:∀(j:Nat) (v:Value),j≠k→cs[j]?=some v→∀x,v.ownBlock=some x→(Value.slice A l.length c).ownBlock≠some x
theorem QOne.up {B:Nat} {W W':World} {cs:List Value} {k:Nat} {A:Option Addr} {c:Nat} {l:List Int} (h:QOne B W cs k A c l) (hb:Below W.heap.size W W'):QOne B W' cs k A c l:=⟨h.at_,h.own.up hb,h.sep⟩
theorem QOne.of {B:Nat} {W:World} {cs:List Value} {qs:List (List Int)} (h:QOwn B W cs qs) {k:Nat} (hk:k<qs.length):∃A c,QOne B W cs k A c qs[k]:=by
 obtain⟨A,c,h1,h2⟩:=h.own k qs[k] (List.getElem?_eq_getElem hk)
 refine⟨A,c,h1,h2,fun j v hj hv x hx e=> ?_⟩
 rcases Nat.lt_or_gt_of_ne hj with hlt|hgt
 ·exact h.sep j k v _ hlt hv h1 x hx e
 ·exact h.sep k j _ v hgt h1 hv x e hx
theorem indexU_below (y:Int) (v:Value) (xs:List (Int)) (w:World) (hs:Sl u32R w v xs):Calls Tryz.prog 139 #[v,.int .u32 y] w fun e w'=>e=.returned (.int .i64 (idxOf (fun x=>y==x) xs))∧Below w.heap.size w w':=
 (indexU_any y v xs w hs).mono fun _ _ ⟨h1,h2⟩=>⟨h1,by rw[h2];exact Below.refl _ _⟩
theorem containsU_below (y:Int) (v:Value) (xs:List (Int)) (w:World) (hs:Sl u32R w v xs):Calls Tryz.prog 138 #[v,.int .u32 y] w fun e w'=>e=.returned (.bool (xs.any fun x=>y==x))∧Below w.heap.size w w':=
 (containsU_any y v xs w hs).mono fun _ _ ⟨h1,h2⟩=>⟨h1,by rw[h2];exact Below.refl _ _⟩
theorem QuT.kept_ne {W W':World} {v:Value} {l:List Int} {row:Option Nat} (h:QuT W v l) (hg:W.grownBy W' row) (hne:∀x,v.ownBlock=some x→row≠some x):QuT W' v l:=by
 obtain⟨⟨A,c,rfl,hc,hm,h1⟩,h2⟩:=h
 refine⟨⟨A,c,rfl,hc,hm, ?_⟩,fun hl k hk=> ?_⟩
 ·rcases h1 with h1|⟨b,off,rfl,hlt,hcells⟩
  ·exact .inl h1
  ·refine .inr ⟨b,off,rfl,Nat.lt_of_lt_of_le hlt hg.size,fun i y hi=> ?_⟩
   obtain⟨cs,h3,h4⟩:=hcells i y hi
   exact⟨cs,h3,fun j u hu=>cell_grown hg (h4 j u hu) (hne b rfl)⟩
 ·have h3:=h2 hl k hk
  have h4:=h3.lt
  obtain⟨ds,z,h5⟩:=h3
  exact⟨ds,z,(hg.block k h4 (fun e=>hne k hk e.symm)).trans h5⟩
theorem BoxN.kept_own {α:Type} {R:Rep α} {W W':World} {B b:Nat} {t e:TypeId} {cs:Array Value} {v:Value} {xs:List α} (h:BoxN W b t cs) (hg:W.grownBy W' v.ownBlock) (ho:Own R e B W v xs) (hne:t≠e):BoxN W' b t cs:=h.kept hg (fun h'=>ho.not_box h hne h'.symm)
theorem Off.putQ {w0 X Y:World} {g a ac b:Nat} {V:Option Addr} {vc:Nat} {cs:List Value} {s:Md} {op:MOp} {seat:Int} {k:Nat} {A A':Option Addr} {c c':Nat} {l l':List Int} (h:Off w0 X g a ac b V vc cs s op seat)
 (hq:QOne w0.heap.size X cs k A c l) (hg:X.grownBy Y (Value.slice A l.length c).ownBlock) (hn:QuT Y (.slice A' l'.length c') l') (hk:k<s.qs.length):
 Off w0 (Y.setCell ⟨b,k,none⟩ (.slice A' l'.length c')) g a ac b V vc (cs.set k (.slice A' l'.length c')) {s with qs:=s.qs.set k l'} op seat:=by
 have hqb:=h.qb.kept_own hg hq.own (by decide)
 have hg2:=grownBy_set Y b k (.slice A' l'.length c')
 have hbB:=h.bB
 have hbw:Below w0.heap.size w0 Y:=h.bw.grown hg h.bw.size (fun x hx=>(hq.own.lt x hx).1)
 refine⟨hbw.grown hg2 hbw.size (fun x hx=>by injection hx with hx;omega),h.gB,h.bB, ?_,h.vs, ?_, ?_,by simp[h.ql],fun j m hj=> ?_,h.bv,h.bn,h.bo,h.bs⟩
 ·have:=(h.box.kept_own hg hq.own (by decide)).kept hg2 (fun e=>h.gb (by injection e))
  simpa[offCells] using this
 ·have h1:=h.ss.kept hg (fun x hx e=>h.ss.apart hq.own (by decide) x hx e) (fun cs y h=>sxR_flat _ _ _ _ h)
  exact h1.kept_box hg2 hqb (by decide) sxR_flat
 ·have:=hqb.set k (.slice A' l'.length c')
  simpa using this
 ·by_cases hkj:k=j
  ·subst hkj
   rw[List.getElem?_set_self hk] at hj
   injection hj with hj
   subst hj
   exact⟨A',c',by rw[List.getElem?_set_self (by rw[h.ql];exact hk)],hn.kept hg2 (Tag.of_box hqb) (by decide)⟩
  ·rw[List.getElem?_set_ne hkj] at hj
   obtain⟨A1,c1,h1,h2⟩:=h.qq j m hj
   exact⟨A1,c1,by rw[List.getElem?_set_ne hkj];exact h1,(h2.kept_ne hg (fun x hx=>hq.sep j _ (Ne.symm hkj) h1 x hx)).kept hg2 (Tag.of_box hqb) (by decide)⟩
def Spare (W X:World):Prop:=∀(q:Nat) (t:TypeId) (ds:Array Value),BoxN W q t ds→t≠126→t≠81→t≠85→t≠41→BoxN X q t ds
theorem Spare.of {W X:World} (h:Below W.heap.size W X):Spare W X:=fun _ _ _ hb _ _ _ _=>hb.later h
theorem Spare.below {W X Y:World} (h:Spare W X) (hb:Below X.heap.size X Y):Spare W Y:=fun q t ds h0 h1 h2 h3 h4=>(h q t ds h0 h1 h2 h3 h4).later hb
theorem Spare.ownU {W X Y:World} {B:Nat} {v:Value} {l:List Int} (h:Spare W X) (hg:X.grownBy Y v.ownBlock) (ho:Own u32R 41 B X v l):Spare W Y:=fun q t ds h0 h1 h2 h3 h4=>(h q t ds h0 h1 h2 h3 h4).kept_own hg ho h4
theorem Spare.box {W X Y:World} {b:Nat} {cs:Array Value} (h:Spare W X) (hg:X.grownBy Y (some b)) (hb:BoxN X b 85 cs):Spare W Y:=fun q t ds h0 h1 h2 h3 h4=>(h q t ds h0 h1 h2 h3 h4).kept hg (fun e=>box_ne (h q t ds h0 h1 h2 h3 h4) hb h3 (by injection e))
theorem Spare.new {W X Y:World} {b:Nat} (h:Spare W X) (hg:X.grownBy Y (some b)) (hq:W.heap.size≤b):Spare W Y:=fun q t ds h0 h1 h2 h3 h4=>(h q t ds h0 h1 h2 h3 h4).kept hg (fun e=>by have:=h0.lt;cases e;omega)
def OpPost2 (w0 W:World) (g a ac b:Nat) (V:Option Addr) (vc:Nat) (op:MOp) (seat:Int) (M:Md×MRp) (e:Ending) (w':World):Prop:=
 e=.returned (RpV M.2)∧(∃cs',Off w0 w' g a ac b V vc cs' M.1 op seat)∧Spare W w'
theorem OpPost.two {w0 W:World} {g a ac b:Nat} {V:Option Addr} {vc:Nat} {cs:List Value} {s:Md} {op:MOp} {seat:Int} {M:Md×MRp} {e:Ending} {w':World} (h0:Off w0 W g a ac b V vc cs s op seat) (h:OpPost w0 W g a ac b V vc op seat M e w'):OpPost2 w0 W g a ac b V vc op seat M e w':=
 ⟨h.1,h.2.1,fun _ _ _ hb h1 h2 h3 _=>hb.only h.2.2 ((Tag.of_box hb).ne (Tag.of_box h0.box) h1) ((Tag.of_box hb).ne (Tag.of_own h0.ss) h2) ((Tag.of_box hb).ne (Tag.of_box h0.qb) h3)⟩
def listAt (s:Md) (k:Nat):List Int:=s.qs.getD k []
theorem sl_oneU (w:World) (x:Int) (t:TypeId) (hx:U32 x):Sl u32R (w.alloc (.cells #[.int .u32 x] t)) (.slice (some ⟨w.heap.size,0,none⟩) 1 1) [x]:=by
 refine⟨_,1,rfl,Nat.le_refl _,by omega,.inr ⟨w.heap.size,0,rfl,by simp,fun i y hi=> ?_⟩⟩
 match i,hi with
 |0,hi=>
  simp at hi;subst hi
  exact⟨[.int .u32 x],⟨rfl,hx⟩,fun j u hu=>by
   match j,hu with
   |0,hu=>simp at hu;subst hu;simp[u32R]⟩
def limAt (s:Md) (k:Nat):Int:=match s.ve.secs[k]? with
 |some x=>x.queue
 |none=>0
def joinM (s:Md) (op:MOp) (k:Nat):Md×MRp:=
 if limAt s k≤((listAt s k).length:Int) then(s,{noRp with err:=5}) else if((listAt s k).any fun x=>op.owner==x)=true then(s,{noRp with err:=8})
 else({s with qs:=s.qs.set k (listAt s k++[op.owner])},{noRp with place:=((listAt s k).length:Int)+1})
set_option maxHeartbeats 4000000 in
set_option maxRecDepth 20000 in
theorem join_any {w0 W:World} {g a ac b:Nat} {V:Option Addr} {vc:Nat} {cs:List Value} {s:Md} {op:MOp} {seat:Int} (h:Off w0 W g a ac b V vc cs s op seat) {k:Nat} {A:Option Addr} {c:Nat} {l:List Int} (hQ:QOne w0.heap.size W cs k A c l) (hl:s.qs[k]?=some l) (hk:k<s.qs.length) (hks:k<s.ve.secs.length) (hop:op.section_=(k:Int)) (hlen:l.length≤1000):
 Calls Tryz.prog 104 #[.pointer (some ⟨g,0,none⟩)] W (OpPost2 w0 W g a ac b V vc op seat (joinM s op k)):=by
 have hwb:=h.bw.size
 obtain⟨bg,ba',bb⟩:=h.bnd
 have hcl:k<cs.length:=by rw[h.ql];exact hk
 have hlx:listAt s k=l:=by simp[listAt,hl]
 have hqx:limAt s k=s.ve.secs[k].queue:=by simp[limAt,hks]
 have HM:=Lib.hid (show joinM s op k=if s.ve.secs[k].queue≤(l.length:Int) then(s,⟨5,0,0,0,noTk,0⟩) else if(l.any fun x=>op.owner==x)=true then(s,⟨8,0,0,0,noTk,0⟩)
  else({s with qs:=s.qs.set k (l++[op.owner])},⟨0,0,0,0,noTk,(l.length:Int)+1⟩) by rw[←hqx,←hlx];rfl)
 clear hlx hqx
 obtain⟨vb,voff,_,_,rfl,hvb,_,_,hv2,_,hvq,_⟩:=(h.vs.up h.bw).atS hks
 have howu:=h.bo.2.1
 have hsc:=h.bo.2.2.2.2.1
 generalize s.ve.secs[k].queue=lim at hv2 hvq HM
 generalize joinM s op k=MM at HM⊢
 have H:=Lib.hid h
 have HQ:=Lib.hid hQ
 have hk0:(0:Int)≤(k:Int):=by omega
 have hk1:(k:Int)<(s.qs.length:Int):=by omega
 have hk2:(k:Int)<(s.ve.secs.length:Int):=by omega
 have HL:=Lib.hid hl
 clear h hQ hl
 go_enter Tryz.func104,Tryz.ntmps104
 go_upto_region 1 with fail
 refine at_world (fun X=>Below W.heap.size W X∧BoxN X W.heap.size 49 #[.int .i64 0,.int .i64 0,.int .i64 0,.int .i64 0,.int .u32 0,.int .u32 0,.int .u64 0,.int .u64 0,.int .i64 0]) ⟨ba _ _,BoxN.new _ _ _⟩ fun w1 hw1=> ?_
 have hb1:=hw1.1
 have H1:=Lib.hid (H.out.up hb1)
 have HQ1:=Lib.hid (HQ.out.up hb1)
 have J1:=Lib.hid hw1.2
 have HB1:=Lib.hid hb1
 have o6:=H1.out.box.cell 6 (.slice (some ⟨b,0,none⟩) s.qs.length s.qs.length) rfl
 have o11:=H1.out.box.cell 11 (.int .i64 op.section_) rfl
 have o3:=H1.out.box.cell 3 (.slice (some ⟨vb,voff,none⟩) s.ve.secs.length vc) rfl
 have zg:=H1.out.box.lt
 have zb:=H1.out.qb.lt
 have q0:=H1.out.qb.cell k (.slice A l.length c) (by rw[List.getElem?_toArray];exact HQ1.out.at_)
 have v2:=cell_later hb1 hv2
 have zv:vb<w1.heap.size:=Nat.lt_of_lt_of_le hvb hb1.size
 rw[hop] at o11
 clear hw1 hb1 hv2 hvb
 go_quiet (fail)
 go_upto_region 2 with fail
 have zg1:=zg
 have zb1:=zb
 have q1:=q0
 refine at_world (fun X=>Below w1.heap.size w1 X) (bdN (Below.refl _ _) _) fun w2 hb=> ?_
 have H2:=Lib.hid (H1.out.up hb)
 have HQ2:=Lib.hid (HQ1.out.up hb)
 have J2:=Lib.hid (J1.out.later hb)
 have HB2:=Lib.hid (bstep HB1.out hb)
 have q2:=cell_later hb q1
 have zb2:b<w2.heap.size:=Nat.lt_of_lt_of_le zb1 hb.size
 have zg2:g<w2.heap.size:=Nat.lt_of_lt_of_le zg1 hb.size
 have o3':=cell_later hb o3
 have o11':=cell_later hb o11
 have v2':=cell_later hb v2
 have zv':vb<w2.heap.size:=Nat.lt_of_lt_of_le zv hb.size
 clear hb q0 q1 zb zb1 zg zg1 o3 o11 v2 zv o6
 by_cases hc:lim≤(l.length:Int)
 ·replace HM:=Lib.hid (show MM=(s,⟨5,0,0,0,noTk,0⟩) by rw[HM.out,if_pos hc])
  have t:decide (lim≤(l.length:Int))=true:=by simpa using hc
  clear hc
  go_quiet (fail)
  go_upto_region 3 with fail
  refine at_world (fun X=>Below w2.heap.size w2 X) (bdN (Below.refl _ _) _) fun w3 hb=> ?_
  have H3:=Lib.hid (H2.out.up hb)
  have HQ3:=Lib.hid (HQ2.out.up hb)
  have J3:=Lib.hid (J2.out.later hb)
  have HB3:=Lib.hid (bstep HB2.out hb)
  have q3:=cell_later hb q2
  have zb3:b<w3.heap.size:=Nat.lt_of_lt_of_le zb2 hb.size
  have zg3:g<w3.heap.size:=Nat.lt_of_lt_of_le zg2 hb.size
  clear hb q2 zb2 zg2 o3' o11' v2' zv'
  obtain⟨dc0,df0,dc1,df1,dc2,df2,dc3,df3,dc4,df4,dc5,df5,dc6,df6,dc7,df7,dc8,df8,dz⟩:=J3.out.x9
  go_wp2_with fail
  have b':=J3.out.set9 (.int .i64 5) (.int .i64 0) (.int .i64 0) (.int .i64 0) (.int .u32 0) (.int .u32 0) (.int .u64 0) (.int .u64 0) (.int .i64 0)
  have hg:=grownBy_putAt [.int .i64 5,.int .i64 0,.int .i64 0,.int .i64 0,.int .u32 0,.int .u32 0,.int .u64 0,.int .u64 0,.int .i64 0] w3 (W.heap.size) 0
  simp only[putAt,Nat.zero_add,Nat.reduceAdd] at hg
  have hall:=And.intro b' (And.intro (H3.out.new hg (Tag.of_box J3.out) (by omega) (by decide) (by decide) (by decide) (by decide)) (Spare.of (HB3.out.grown hg HB3.out.size (fun z hz=>by injection hz with hz;omega))))
  clear b' hg dc0 dc1 dc2 dc3 dc4 dc5 dc6 dc7 dc8 df0 df1 df2 df3 df4 df5 df6 df7 df8 dz
  refine at_world (fun X=>BoxN X (W.heap.size) 49 #[.int .i64 5,.int .i64 0,.int .i64 0,.int .i64 0,.int .u32 0,.int .u32 0,.int .u64 0,.int .u64 0,.int .i64 0]∧(∃cs',Off w0 X g a ac b (some ⟨vb,voff,none⟩) vc cs' s op seat)∧Spare W X) ⟨hall.1,⟨_,hall.2.1⟩,hall.2.2⟩ fun Y ⟨b',hO,hS⟩=> ?_
  clear hall
  have gg:=b'.x9
  exact bodyPost_ret (v:=.agg #[.int .i64 5,.int .i64 0,.int .i64 0,.int .i64 0,.int .u32 0,.int .u32 0,.int .u64 0,.int .u64 0,.int .i64 0]) (by simp[results,Tryz.results104,go_sem,gg]) rfl (show OpPost2 w0 W g a ac b (some ⟨vb,voff,none⟩) vc op seat MM _ _ from by rw[HM.out];exact⟨rfl,hO,hS⟩)
 ·have t:decide (lim≤(l.length:Int))=false:=by simpa using hc
  replace HM:=Lib.hid (show MM=if(l.any fun x=>op.owner==x)=true then(s,⟨8,0,0,0,noTk,0⟩) else({s with qs:=s.qs.set k (l++[op.owner])},⟨0,0,0,0,noTk,(l.length:Int)+1⟩) by rw[HM.out,if_neg hc])
  clear hc
  go_quiet (fail)
  go_upto_region 4 with fail
  refine at_world (fun X=>Below w2.heap.size w2 X) (bdN (Below.refl _ _) _) fun w3 hb=> ?_
  have H3:=Lib.hid (H2.out.up hb)
  have HQ3:=Lib.hid (HQ2.out.up hb)
  have J3:=Lib.hid (J2.out.later hb)
  have HB3:=Lib.hid (bstep HB2.out hb)
  have q3:=cell_later hb q2
  have zb3:b<w3.heap.size:=Nat.lt_of_lt_of_le zb2 hb.size
  have zg3:g<w3.heap.size:=Nat.lt_of_lt_of_le zg2 hb.size
  clear hb q2 zb2 zg2 o3' o11' v2' zv' t
  have o8:=gro_cell (H3.out.box.cell 8 (.int .u32 op.owner) rfl)
  have q3':=gro_cell q3
  have C:=Lib.hid (fun X (hb:Below w3.heap.size w3 X)=>containsU_below op.owner _ l X (HQ3.out.own.sl.up hb))
  generalize(l.any fun x=>op.owner==x)=B at C HM
  refine wp_region_gro (by kernel_rfl) (by kernel_rfl) ?_
  repeat(go_big_quiet_step (first|(go_at_call 138;exact Calls.gro_of (C.out _ (gro_below _ _)))|fail))
  refine wpQuiet_nil ?_
  rintro _ ⟨p,rfl⟩
  have hg:=gro_below w3 p
  generalize gro w3 p=wx at hg⊢
  refine at_world (fun X=>Below w3.heap.size w3 X) (hg) fun w4 hb=> ?_
  have H4:=Lib.hid (H3.out.up hb)
  have HQ4:=Lib.hid (HQ3.out.up hb)
  have J4:=Lib.hid (J3.out.later hb)
  have HB4:=Lib.hid (bstep HB3.out hb)
  have q4:=cell_later hb q3
  have zb4:b<w4.heap.size:=Nat.lt_of_lt_of_le zb3 hb.size
  have zg4:g<w4.heap.size:=Nat.lt_of_lt_of_le zg3 hb.size
  clear o8 q3' q3 zb3 zg3
  cases B with
  |true=>
   replace HM:=Lib.hid (show MM=(s,⟨8,0,0,0,noTk,0⟩) from HM.out)
   clear hb q4 zb4 zg4
   obtain⟨dc0,df0,dc1,df1,dc2,df2,dc3,df3,dc4,df4,dc5,df5,dc6,df6,dc7,df7,dc8,df8,dz⟩:=J4.out.x9
   go_wp2_with fail
   have b':=J4.out.set9 (.int .i64 8) (.int .i64 0) (.int .i64 0) (.int .i64 0) (.int .u32 0) (.int .u32 0) (.int .u64 0) (.int .u64 0) (.int .i64 0)
   have hg:=grownBy_putAt [.int .i64 8,.int .i64 0,.int .i64 0,.int .i64 0,.int .u32 0,.int .u32 0,.int .u64 0,.int .u64 0,.int .i64 0] w4 (W.heap.size) 0
   simp only[putAt,Nat.zero_add,Nat.reduceAdd] at hg
   have hall:=And.intro b' (And.intro (H4.out.new hg (Tag.of_box J4.out) (by omega) (by decide) (by decide) (by decide) (by decide)) (Spare.of (HB4.out.grown hg HB4.out.size (fun z hz=>by injection hz with hz;omega))))
   clear b' hg dc0 dc1 dc2 dc3 dc4 dc5 dc6 dc7 dc8 df0 df1 df2 df3 df4 df5 df6 df7 df8 dz
   refine at_world (fun X=>BoxN X (W.heap.size) 49 #[.int .i64 8,.int .i64 0,.int .i64 0,.int .i64 0,.int .u32 0,.int .u32 0,.int .u64 0,.int .u64 0,.int .i64 0]∧(∃cs',Off w0 X g a ac b (some ⟨vb,voff,none⟩) vc cs' s op seat)∧Spare W X) ⟨hall.1,⟨_,hall.2.1⟩,hall.2.2⟩ fun Y ⟨b',hO,hS⟩=> ?_
   clear hall
   have gg:=b'.x9
   exact bodyPost_ret (v:=.agg #[.int .i64 8,.int .i64 0,.int .i64 0,.int .i64 0,.int .u32 0,.int .u32 0,.int .u64 0,.int .u64 0,.int .i64 0]) (by simp[results,Tryz.results104,go_sem,gg]) rfl (show OpPost2 w0 W g a ac b (some ⟨vb,voff,none⟩) vc op seat MM _ _ from by rw[HM.out];exact⟨rfl,hO,hS⟩)
  |false=>
   replace HM:=Lib.hid (show MM=({s with qs:=s.qs.set k (l++[op.owner])},⟨0,0,0,0,noTk,(l.length:Int)+1⟩) from HM.out)
   clear hb
   have o8:=H4.out.box.cell 8 (.int .u32 op.owner) rfl
   have fb:=H4.out.qb.frozen k
   go_upto_region 6 with fail
   have hne:Value.ownBlock (.slice A l.length c)≠some b:=HQ4.out.own.not_box H4.out.qb (by decide)
   have HOW:=Lib.hid howu
   clear howu
   go_region_law (refine step_append_sl rfl (.tmp 50) (.tmp 56) 85 rfl u32R w0.heap.size 41 _ 4 Tryz.underlying85 infoU rfl (by decide) _ l rfl (HQ4.out.own.up (by first|exact bdd (ba _ _)|exact bal (bdd (Below.refl _ _)))) _ [op.owner] rfl (by first|exact(sl_oneU _ _ _ HOW.out).up (bdd (Below.refl _ _))|exact sl_oneU _ _ _ HOW.out) (by simp;omega) (by decide) (by have:=HB4.out.size;simp;omega) (fun w' _ cs y h=>u32R_flat _ _ _ _ h) ?_;intro v5 w5 ho5 hg5 hat5;obtain⟨A5,c5,rfl,_,_,ho5⟩:=ho5.form;have q5:=cell_grown hg5 (cell_later (show Below w4.heap.size w4 _ from by first|exact bdd (ba _ _)|exact bal (bdd (Below.refl _ _))) q4) hne;have f5:=free_grown hg5 (cell_later (show Below w4.heap.size w4 _ from by first|exact bdd (ba _ _)|exact bal (bdd (Below.refl _ _))) q4) (free_later (show Below w4.heap.size w4 _ from by first|exact bdd (ba _ _)|exact bal (bdd (Below.refl _ _))) q4 fb) hne)
   all_goals
    have hX:=Lib.hid (show Below w4.heap.size w4 (w4.alloc (.cells #[.int .u32 op.owner] 41)).drew from bdd (ba _ _))
    replace hg5:World.grownBy _ w5 (Value.slice A l.length c).ownBlock:=hg5
    have HN:=Lib.hid ((H4.out.up hX.out).putQ (HQ4.out.up hX.out) hg5 (QuT.of_own ho5) hk)
    have HJ:=Lib.hid (((J4.out.later hX.out).kept_own hg5 (HQ4.out.up hX.out).own (by decide)).kept (grownBy_set w5 b k (.slice A5 (l++[op.owner]).length c5)) (fun e=>by injection e with e;omega))
    have hlen5:(l++[op.owner]).length=l.length+1:=by simp
    have HSP:=Lib.hid (((((Spare.of HB4.out).below hX.out).ownU hg5 (HQ4.out.up hX.out).own).box (grownBy_set w5 b k (.slice A5 (l++[op.owner]).length c5)) ((H4.out.up hX.out).qb.kept_own hg5 (HQ4.out.up hX.out).own (by decide))))
    rw[hlen5] at HN HJ HSP
    have hbx:b<w5.heap.size:=World.block_lt_of_cell? _ _ q5
    clear hX hg5 hat5 ho5 hlen5 q4 zb4 zg4 o8 fb q5 f5 HQ4 H4 J4 HB4
    refine at_world (fun X=>Off w0 X g a ac b (some ⟨vb,voff,none⟩) vc (cs.set k (.slice A5 (l.length+1) c5)) {s with qs:=s.qs.set k (l++[op.owner])} op seat∧BoxN X W.heap.size 49 #[.int .i64 0,.int .i64 0,.int .i64 0,.int .i64 0,.int .u32 0,.int .u32 0,.int .u64 0,.int .u64 0,.int .i64 0]∧Spare W X) ⟨HN.out,HJ.out,HSP.out⟩ fun w6 h6=> ?_
    have H6:=Lib.hid h6.1
    have J6:=Lib.hid h6.2.1
    have HP6:=Lib.hid h6.2.2
    clear h6 HN HJ HSP hbx
    have e6:=H6.out.qb.cell k (.slice A5 (l.length+1) c5) (by rw[List.getElem?_toArray,List.getElem?_set_self hcl])
    have zb6:=H6.out.qb.lt
    obtain⟨dc0,df0,dc1,df1,dc2,df2,dc3,df3,dc4,df4,dc5,df5,dc6,df6,dc7,df7,dc8,df8,dz⟩:=J6.out.x9
    go_wp2_with fail
    have b':=J6.out.set9 (.int .i64 0) (.int .i64 0) (.int .i64 0) (.int .i64 0) (.int .u32 0) (.int .u32 0) (.int .u64 0) (.int .u64 0) (.int .i64 ((l.length:Int)+1))
    have hg:=grownBy_putAt [.int .i64 0,.int .i64 0,.int .i64 0,.int .i64 0,.int .u32 0,.int .u32 0,.int .u64 0,.int .u64 0,.int .i64 ((l.length:Int)+1)] w6 (W.heap.size) 0
    simp only[putAt,Nat.zero_add,Nat.reduceAdd] at hg
    have hall:=And.intro b' (And.intro (H6.out.new hg (Tag.of_box J6.out) (by omega) (by decide) (by decide) (by decide) (by decide)) (HP6.out.new hg (Nat.le_refl _)))
    clear b' hg dc0 dc1 dc2 dc3 dc4 dc5 dc6 dc7 dc8 df0 df1 df2 df3 df4 df5 df6 df7 df8 dz
    refine at_world (fun X=>BoxN X (W.heap.size) 49 #[.int .i64 0,.int .i64 0,.int .i64 0,.int .i64 0,.int .u32 0,.int .u32 0,.int .u64 0,.int .u64 0,.int .i64 ((l.length:Int)+1)]∧(∃cs',Off w0 X g a ac b (some ⟨vb,voff,none⟩) vc cs' {s with qs:=s.qs.set k (l++[op.owner])} op seat)∧Spare W X) ⟨hall.1,⟨_,hall.2.1⟩,hall.2.2⟩ fun Y ⟨b',hO,hS⟩=> ?_
    clear hall
    have g0:=b'.cell 0 (.int .i64 0) rfl
    have g1:=b'.cell 1 (.int .i64 0) rfl
    have g2:=b'.cell 2 (.int .i64 0) rfl
    have g3:=b'.cell 3 (.int .i64 0) rfl
    have g4:=b'.cell 4 (.int .u32 0) rfl
    have g5:=b'.cell 5 (.int .u32 0) rfl
    have g6:=b'.cell 6 (.int .u64 0) rfl
    have g7:=b'.cell 7 (.int .u64 0) rfl
    have g8:=b'.cell 8 (.int .i64 ((l.length:Int)+1)) rfl
    exact bodyPost_ret (v:=.agg #[.int .i64 0,.int .i64 0,.int .i64 0,.int .i64 0,.int .u32 0,.int .u32 0,.int .u64 0,.int .u64 0,.int .i64 ((l.length:Int)+1)]) (by simp[results,Tryz.results104,go_sem,g0,g1,g2,g3,g4,g5,g6,g7,g8]) rfl (show OpPost2 w0 W g a ac b (some ⟨vb,voff,none⟩) vc op seat MM _ _ from by rw[HM.out];exact⟨rfl,hO,hS⟩)
end Go.Proofs.YtlckmjiioohcmaaGreatDoor
namespace Go.Proofs.YtlckmjiioohcmaaGreatDoor
open Go.RowKit
theorem grownBy_setCells (b:Nat):∀(us:List Value) (o:Nat) (w:World),w.grownBy (w.setCells b o us) (some b)
 |[],_,w=>World.grownBy.refl w _
 |u::us,o,w=>grownBy_trans (grownBy_set w b o u) (grownBy_setCells b us (o+1) _)
theorem Own.setU {e B g cap n:Nat}:∀(us:List Int) (i:Nat) {w:World} {ys:List Int},Own u32R e B w (.slice (some ⟨g,0,none⟩) n cap) ys→i+us.length≤ys.length→(∀u∈us,U32 u)→
 Own u32R e B (w.setCells g i (us.map (Value.int .u32))) (.slice (some ⟨g,0,none⟩) n cap) (ys.take i++us++ys.drop (i+us.length))
 |[],i,w,ys,h,_,_=>by simpa[World.setCells] using h
 |u::us,i,w,ys,h,hi,hu=>by
  have hi':i<ys.length:=by simp at hi;omega
  obtain⟨h1,_⟩:=h.put hi' (x:=u) (cs:=[.int .u32 u]) ⟨rfl,hu u (by simp)⟩ (fun _ _ _ _ h=>h)
  have h2:Own u32R e B (w.setCell ⟨g,i,none⟩ (.int .u32 u)) (.slice (some ⟨g,0,none⟩) n cap) (ys.set i u):=by simpa[putAt,u32R] using h1
  have h3:=Own.setU us (i+1) h2 (by simp at hi⊢;omega) (fun v hv=>hu v (by simp[hv]))
  have e1:(ys.set i u).take (i+1)=ys.take i++[u]:=by
   rw[List.take_succ_eq_append_getElem (by simpa using hi'),List.getElem_set_self,List.take_set_of_le (Nat.le_refl _)]
  have e2:(ys.set i u).drop (i+1+us.length)=ys.drop (i+(u::us).length):=by
   rw[List.drop_set_of_lt (by omega),List.length_cons,show i+1+us.length=i+(us.length+1) by omega]
  rw[e1,e2] at h3
  simpa[World.setCells,List.append_assoc] using h3
theorem moved_eq {xs:List Int} {i:Nat} (hi:i<xs.length):xs.take i++xs.drop (i+1)++xs.drop (i+(xs.drop (i+1)).length)=xs.eraseIdx i++xs.drop (xs.length-1):=by
 rw[List.eraseIdx_eq_take_drop_succ,List.length_drop,show i+(xs.length-(i+1))=xs.length-1 by omega]
set_option maxHeartbeats 4000000 in
theorem deleteU_any {B blk cap i:Nat} {xs:List Int} {w:World} (ho:Own u32R 41 B w (.slice (some ⟨blk,0,none⟩) xs.length cap) xs) (hi:i<xs.length) (hlen:xs.length≤1000):
 Calls Tryz.prog 140 #[.slice (some ⟨blk,0,none⟩) xs.length cap,.int .i64 (i:Int),.int .i64 ((i:Int)+1)] w fun e w'=>
  e=.returned (.slice (some ⟨blk,0,none⟩) (xs.length-1) cap)∧Own u32R 41 B w' (.slice (some ⟨blk,0,none⟩) (xs.length-1) cap) (xs.eraseIdx i)∧w.grownBy w' (some blk):=by
 obtain⟨_,_,heq,hcap,hcm,_⟩:=ho.sl
 injection heq with e1 e2 e3
 subst e3
 clear e1 e2
 have hu:∀u∈xs,U32 u:=fun u hu=>by
  obtain⟨j,hj,rfl⟩:=List.getElem_of_mem hu
  obtain⟨_,_,_,_,_,h⟩:=ho.sl.atU hj
  exact h
 have h1:=(ho.up (bdd (Below.refl _ _))).setU (xs.drop (i+1)) i (by simp;omega) (fun u h=>hu u (List.mem_of_mem_drop h))
 rw[moved_eq hi] at h1
 have HG1:=Lib.hid (grownBy_setCells blk ((xs.drop (i+1)).map (Value.int .u32)) i w.drew)
 have HO1:=Lib.hid h1
 have hcells:∀j u,((xs.drop (i+1)).map (Value.int .u32))[j]?=some u→w.cell? ⟨blk,i+1+j,none⟩=some u:=fun j u hj=>by
  rw[List.getElem?_map] at hj
  have hj':j<(xs.drop (i+1)).length:=by
   rcases Nat.lt_or_ge j (xs.drop (i+1)).length with h|h
   ·exact h
   ·rw[List.getElem?_eq_none h] at hj;cases hj
  rw[List.getElem?_eq_getElem hj',Option.map_some] at hj
  injection hj with hj
  subst hj
  rw[List.length_drop] at hj'
  obtain⟨b,off,he,_,hc,_⟩:=ho.sl.atU (k:=i+1+j) (by omega)
  injection he with he
  injection he with he1 he2
  subst he1 he2
  rw[List.getElem_drop]
  simpa using hc
 have hspare:∀j,j<((xs.drop (i+1)).map (Value.int .u32)).length→(w.cell? ⟨blk,0+i*1+j,none⟩).isSome=true∧w.frozen? ⟨blk,0+i*1+j,none⟩=false:=fun j hj=>by
  rw[List.length_map,List.length_drop] at hj
  obtain⟨ds,hd1,hd2,hd3⟩:=ho.cell_ (k:=i+j) (by omega)
  obtain⟨rfl,_⟩:=hd1
  have:=hd2 0 _ rfl
  simp only[u32R,Nat.mul_one,Nat.add_zero] at this
  exact⟨by rw[show 0+i*1+j=i+j by omega,this];rfl,hd3 _⟩
 obtain⟨i0,hi0,hz0,hz1,hz2⟩:=info_parts infoU
 have HC:=Lib.hid hcells
 have HSP:=Lib.hid hspare
 have hl1:((xs.drop (i+1)).map (Value.int .u32)).length=(xs.length-(i+1))*1:=by simp
 have hone:∀u∈(xs.drop (i+1)).map (Value.int .u32),u.oneCell'=true:=fun u hu=>by
  obtain⟨x,_,rfl⟩:=List.mem_map.1 hu
  rfl
 have HL1:=Lib.hid hl1
 have HON:=Lib.hid hone
 have k0:(0:Int)≤(i:Int):=by omega
 have k1:(i:Int)≤(i:Int)+1:=by omega
 have k2:(i:Int)+1≤(xs.length:Int):=by omega
 have k3:(xs.length:Int)≤(cap:Int):=by omega
 have k4:IntKind.i64.wrap ((i:Int)+1)=(i:Int)+1:=IntWalk.i64_in _ (by omega)
 have k5:(((i:Int)==(i:Int)+1))=false:=by simp;omega
 have k6:(i:Int)≤(xs.length:Int):=by omega
 have k7:(i:Int)≤(cap:Int):=by omega
 have k8:(0:Int)≤(i:Int)+1:=by omega
 have k9:((i:Int)+1).toNat=i+1:=by omega
 clear ho h1 hcells hspare hl1 hone hu
 go_enter Tryz.func140,Tryz.ntmps140
 go_upto_region 5 with fail
 obtain⟨AD,hAD,hcl⟩:∃AD:Addr,(if cap=i+1 then some (⟨blk,0,none⟩:Addr) else some ⟨blk,i+1,none⟩)=some AD∧∀j u,((xs.drop (i+1)).map (Value.int .u32))[j]?=some u→w.cell? (AD.add j)=some u:=by
  by_cases hci:cap=i+1
  ·refine⟨⟨blk,0,none⟩,by rw[if_pos hci],fun j u hj=> ?_⟩
   rw[List.drop_eq_nil_of_le (by omega)] at hj
   simp at hj
  ·refine⟨⟨blk,i+1,none⟩,by rw[if_neg hci],fun j u hj=> ?_⟩
   rw[addr_add]
   exact HC.out j u hj
 have HCL:=Lib.hid hcl
 clear hcl HC
 generalize(xs.drop (i+1)).map (Value.int .u32)=us at*
 go_region_law (refine step_append_room rfl (.tmp 22) (.tmp 25) 85 rfl 41 i0 1 Tryz.underlying85 hi0 hz1 blk 0 i cap (by simp[Act.eval,Act.put]) AD (xs.length-(i+1)) (cap-(i+1)) us (by simp[Act.eval,Act.put]) HL1.out HCL.out HON.out (by omega) HSP.out ?_)
 obtain⟨m,hm⟩:∃m,xs.length=m+1:=⟨xs.length-1,by omega⟩
 have m0:(0:Int)≤(m:Int):=by omega
 have m1:(m:Int)≤(xs.length:Int):=by omega
 have m2:(m:Int)≤(cap:Int):=by omega
 have m3:¬cap=m:=by omega
 rw[show i+(xs.length-(i+1))=m by omega]
 have HMM:=Lib.hid hm
 have hown2:Own u32R 41 B (w.drew.setCells blk i us) (.slice (some ⟨blk,0,none⟩) xs.length cap) (xs.eraseIdx i++xs.drop (xs.length-1)):=HO1.out
 have hel:(xs.eraseIdx i++xs.drop (xs.length-1)).length=xs.length:=by rw[List.length_append,List.length_eraseIdx_of_lt hi,List.length_drop];omega
 obtain⟨w3,hclr,hown3,hgr3⟩:=run_clear_own (P:=Tryz.prog) (t:=85) (ty:=0) (i:=m) (o:=m) (m:=xs.length-m) (c:=cap-m) Tryz.underlying85 (fun w=>by kernel_rfl) (z:=.int .u32 0) rfl (by simp[Value.oneCell',Value.cells]) hown2 (by rw[hel];omega) (fun _ _ _ _ h=>h) (by simp[u32R]) rfl
 have HW:=Lib.hid (And.intro hown3 (grownBy_trans HG1.out hgr3))
 clear hown2 hown3 hgr3 HO1 HG1 hel HL1 HCL HON HSP hAD
 generalize w.drew.setCells blk i us=w2 at hclr
 clear hm
 go_wp2_with fail
 go_ret
 have hn:xs.length-1=m:=by have:=HMM.out;omega
 rw[hn]
 refine⟨rfl, ?_,grownBy_trans (show w.grownBy w.drew (some blk) from⟨rfl,rfl,rfl,Nat.le_refl _,fun _ _ _=>rfl⟩) HW.out.2⟩
 have h:=HW.out.1
 rw[hn,List.take_append_of_le_length (by rw[List.length_eraseIdx_of_lt hi];omega),List.take_of_length_le (by rw[List.length_eraseIdx_of_lt hi];omega)] at h
 exact h
def leaveM (s:Md) (op:MOp) (k:Nat):Md×MRp:=if idxOf (fun x=>op.owner==x) (listAt s k)<0 then(s,{noRp with err:=4})
 else({s with qs:=s.qs.set k ((listAt s k).eraseIdx (idxOf (fun x=>op.owner==x) (listAt s k)).toNat)},noRp)
set_option maxHeartbeats 4000000 in
set_option maxRecDepth 20000 in
theorem leave_any {w0 W:World} {g a ac b:Nat} {V:Option Addr} {vc:Nat} {cs:List Value} {s:Md} {op:MOp} {seat:Int} (h:Off w0 W g a ac b V vc cs s op seat) {k:Nat} {A:Option Addr} {c:Nat} {l:List Int} (hQ:QOne w0.heap.size W cs k A c l) (hl:s.qs[k]?=some l) (hk:k<s.qs.length) (hop:op.section_=(k:Int)) (hlen:l.length≤1000):
 Calls Tryz.prog 105 #[.pointer (some ⟨g,0,none⟩)] W (OpPost2 w0 W g a ac b V vc op seat (leaveM s op k)):=by
 have hwb:=h.bw.size
 obtain⟨bg,ba',bb⟩:=h.bnd
 have hcl:k<cs.length:=by rw[h.ql];exact hk
 have hlx:listAt s k=l:=by simp[listAt,hl]
 have HM:=Lib.hid (show leaveM s op k=if idxOf (fun x=>op.owner==x) l<0 then(s,⟨4,0,0,0,noTk,0⟩)
  else({s with qs:=s.qs.set k (l.eraseIdx (idxOf (fun x=>op.owner==x) l).toNat)},⟨0,0,0,0,noTk,0⟩) by rw[←hlx];rfl)
 clear hlx
 have howu:=h.bo.2.1
 generalize leaveM s op k=MM at HM⊢
 have H:=Lib.hid h
 have HQ:=Lib.hid hQ
 have hk0:(0:Int)≤(k:Int):=by omega
 have hk1:(k:Int)<(s.qs.length:Int):=by omega
 have HL:=Lib.hid hl
 clear h hQ hl
 go_enter Tryz.func105,Tryz.ntmps105
 go_upto_region 1 with fail
 refine at_world (fun X=>Below W.heap.size W X∧BoxN X W.heap.size 49 #[.int .i64 0,.int .i64 0,.int .i64 0,.int .i64 0,.int .u32 0,.int .u32 0,.int .u64 0,.int .u64 0,.int .i64 0]) ⟨ba _ _,BoxN.new _ _ _⟩ fun w1 hw1=> ?_
 have hb1:=hw1.1
 have H1:=Lib.hid (H.out.up hb1)
 have HQ1:=Lib.hid (HQ.out.up hb1)
 have J1:=Lib.hid hw1.2
 have HB1:=Lib.hid hb1
 have o6:=H1.out.box.cell 6 (.slice (some ⟨b,0,none⟩) s.qs.length s.qs.length) rfl
 have o11:=H1.out.box.cell 11 (.int .i64 op.section_) rfl
 have zg1:=H1.out.box.lt
 have zb1:=H1.out.qb.lt
 have q1:=H1.out.qb.cell k (.slice A l.length c) (by rw[List.getElem?_toArray];exact HQ1.out.at_)
 rw[hop] at o11
 clear hw1 hb1
 go_quiet (fail)
 go_upto_region 2 with fail
 refine at_world (fun X=>Below w1.heap.size w1 X) (bdN (Below.refl _ _) _) fun w2 hb=> ?_
 have H2:=Lib.hid (H1.out.up hb)
 have HQ2:=Lib.hid (HQ1.out.up hb)
 have J2:=Lib.hid (J1.out.later hb)
 have HB2:=Lib.hid (bstep HB1.out hb)
 have q2:=cell_later hb q1
 have zb2:b<w2.heap.size:=Nat.lt_of_lt_of_le zb1 hb.size
 have zg2:g<w2.heap.size:=Nat.lt_of_lt_of_le zg1 hb.size
 clear hb o6 o11 q1 zb1 zg1
 have o8:=gro_cell (H2.out.box.cell 8 (.int .u32 op.owner) rfl)
 have q2':=gro_cell q2
 have C:=Lib.hid (fun X (hb:Below w2.heap.size w2 X)=>indexU_below op.owner _ l X (HQ2.out.own.sl.up hb))
 have hge:=idxOf_ge (p:=fun x=>op.owner==x) (xs:=l)
 generalize idxOf (fun x=>op.owner==x) l=I at C HM hge
 refine wp_region_gro (by kernel_rfl) (by kernel_rfl) ?_
 repeat(go_big_quiet_step (first|(go_at_call 139;exact Calls.gro_of (C.out _ (gro_below _ _)))|fail))
 refine wpQuiet_nil ?_
 rintro _ ⟨p,rfl⟩
 have hg:=gro_below w2 p
 generalize gro w2 p=wx at hg⊢
 refine at_world (fun X=>Below w2.heap.size w2 X) (hg) fun w3 hb=> ?_
 have H3:=Lib.hid (H2.out.up hb)
 have HQ3:=Lib.hid (HQ2.out.up hb)
 have J3:=Lib.hid (J2.out.later hb)
 have HB3:=Lib.hid (bstep HB2.out hb)
 have q3:=cell_later hb q2
 have zb3:b<w3.heap.size:=Nat.lt_of_lt_of_le zb2 hb.size
 have zg3:g<w3.heap.size:=Nat.lt_of_lt_of_le zg2 hb.size
 clear o8 q2' q2 zb2 zg2 hg hb
 by_cases hI:I<0
 ·replace HM:=Lib.hid (show MM=(s,⟨4,0,0,0,noTk,0⟩) by rw[HM.out,if_pos hI])
  clear q3 zb3 zg3
  obtain⟨dc0,df0,dc1,df1,dc2,df2,dc3,df3,dc4,df4,dc5,df5,dc6,df6,dc7,df7,dc8,df8,dz⟩:=J3.out.x9
  go_wp2_with fail
  have b':=J3.out.set9 (.int .i64 4) (.int .i64 0) (.int .i64 0) (.int .i64 0) (.int .u32 0) (.int .u32 0) (.int .u64 0) (.int .u64 0) (.int .i64 0)
  have hg:=grownBy_putAt [.int .i64 4,.int .i64 0,.int .i64 0,.int .i64 0,.int .u32 0,.int .u32 0,.int .u64 0,.int .u64 0,.int .i64 0] w3 (W.heap.size) 0
  simp only[putAt,Nat.zero_add,Nat.reduceAdd] at hg
  have hall:=And.intro b' (And.intro (H3.out.new hg (Tag.of_box J3.out) (by omega) (by decide) (by decide) (by decide) (by decide)) (Spare.of (HB3.out.grown hg HB3.out.size (fun z hz=>by injection hz with hz;omega))))
  clear b' hg dc0 dc1 dc2 dc3 dc4 dc5 dc6 dc7 dc8 df0 df1 df2 df3 df4 df5 df6 df7 df8 dz
  refine at_world (fun X=>BoxN X (W.heap.size) 49 #[.int .i64 4,.int .i64 0,.int .i64 0,.int .i64 0,.int .u32 0,.int .u32 0,.int .u64 0,.int .u64 0,.int .i64 0]∧(∃cs',Off w0 X g a ac b V vc cs' s op seat)∧Spare W X) ⟨hall.1,⟨_,hall.2.1⟩,hall.2.2⟩ fun Y ⟨b',hO,hS⟩=> ?_
  clear hall
  have gg:=b'.x9
  exact bodyPost_ret (v:=.agg #[.int .i64 4,.int .i64 0,.int .i64 0,.int .i64 0,.int .u32 0,.int .u32 0,.int .u64 0,.int .u64 0,.int .i64 0]) (by simp[results,Tryz.results105,go_sem,gg]) rfl (show OpPost2 w0 W g a ac b V vc op seat MM _ _ from by rw[HM.out];exact⟨rfl,hO,hS⟩)
 ·obtain⟨i,rfl⟩:=Int.eq_ofNat_of_zero_le (show 0≤I by omega)
  replace HM:=Lib.hid (show MM=({s with qs:=s.qs.set k (l.eraseIdx i)},⟨0,0,0,0,noTk,0⟩) by rw[HM.out,if_neg hI];rfl)
  have hi:i<l.length:=by omega
  have hI':decide ((i:Int)<0)=false:=by simp
  have hwr:IntKind.i64.wrap ((i:Int)+1)=(i:Int)+1:=IntWalk.i64_in _ (by omega)
  obtain⟨blk,_,rfl,_,_,_⟩:∃g cs,A=some ⟨g,0,none⟩∧w0.heap.size≤g∧g<w3.heap.size∧u32R.is w3 cs l[i]:=by
   obtain⟨g,cs,h1,h2,h3,h4,_⟩:=HQ3.out.own.at_ hi
   exact⟨g,cs,h1,h2,h3,h4⟩
  have C2:=Lib.hid (deleteU_any HQ3.out.own hi hlen)
  have fb:=H3.out.qb.frozen k
  clear hI hge
  go_wp2_with fail
  refine C2.out.mono ?_
  rintro e4 w4 ⟨rfl,ho4,hg4⟩
  have hne:Value.ownBlock (.slice (some ⟨blk,0,none⟩) l.length c)≠some b:=HQ3.out.own.not_box H3.out.qb (by decide)
  have hlen4:(l.eraseIdx i).length=l.length-1:=List.length_eraseIdx_of_lt hi
  have ho4':Own u32R 41 w0.heap.size w4 (.slice (some ⟨blk,0,none⟩) (l.eraseIdx i).length c) (l.eraseIdx i):=by rw[hlen4];exact ho4
  have HN:=Lib.hid (H3.out.putQ HQ3.out hg4 (QuT.of_own ho4') hk)
  have hj4:=J3.out.kept_own (v:=.slice (some ⟨blk,0,none⟩) l.length c) hg4 HQ3.out.own (by decide)
  have HJ:=Lib.hid (hj4.kept (grownBy_set w4 b k (.slice (some ⟨blk,0,none⟩) (l.eraseIdx i).length c)) (fun e=>by injection e with e;omega))
  have q4:=cell_grown hg4 q3 hne
  have f4:=free_grown hg4 q3 fb hne
  have zb4:b<w4.heap.size:=World.block_lt_of_cell? _ _ q4
  have HSP:=Lib.hid ((((Spare.of HB3.out).ownU (v:=.slice (some ⟨blk,0,none⟩) l.length c) hg4 HQ3.out.own).box (grownBy_set w4 b k (.slice (some ⟨blk,0,none⟩) (l.eraseIdx i).length c)) (H3.out.qb.kept_own (v:=.slice (some ⟨blk,0,none⟩) l.length c) hg4 HQ3.out.own (by decide))))
  rw[hlen4] at HN HJ HSP
  clear ho4 ho4' hg4 hj4 hne q3 fb zb3 zg3 HQ3 H3 J3 HB3 C2 hlen4
  go_upto_region 6 with fail
  refine at_world (fun X=>Off w0 X g a ac b V vc (cs.set k (.slice (some ⟨blk,0,none⟩) (l.length-1) c)) {s with qs:=s.qs.set k (l.eraseIdx i)} op seat∧BoxN X W.heap.size 49 #[.int .i64 0,.int .i64 0,.int .i64 0,.int .i64 0,.int .u32 0,.int .u32 0,.int .u64 0,.int .u64 0,.int .i64 0]∧Spare W X) ⟨HN.out,HJ.out,HSP.out⟩ fun w6 h6=> ?_
  have H6:=Lib.hid h6.1
  have J6:=Lib.hid h6.2.1
  have HP6:=Lib.hid h6.2.2
  clear h6 HN HJ HSP q4 f4 zb4
  obtain⟨dc0,df0,dc1,df1,dc2,df2,dc3,df3,dc4,df4,dc5,df5,dc6,df6,dc7,df7,dc8,df8,dz⟩:=J6.out.x9
  go_wp2_with fail
  have b':=J6.out.set9 (.int .i64 0) (.int .i64 0) (.int .i64 0) (.int .i64 0) (.int .u32 0) (.int .u32 0) (.int .u64 0) (.int .u64 0) (.int .i64 0)
  have hg:=grownBy_putAt [.int .i64 0,.int .i64 0,.int .i64 0,.int .i64 0,.int .u32 0,.int .u32 0,.int .u64 0,.int .u64 0,.int .i64 0] w6 (W.heap.size) 0
  simp only[putAt,Nat.zero_add,Nat.reduceAdd] at hg
  have hall:=And.intro b' (And.intro (H6.out.new hg (Tag.of_box J6.out) (by omega) (by decide) (by decide) (by decide) (by decide)) (HP6.out.new hg (Nat.le_refl _)))
  clear b' hg dc0 dc1 dc2 dc3 dc4 dc5 dc6 dc7 dc8 df0 df1 df2 df3 df4 df5 df6 df7 df8 dz
  refine at_world (fun X=>BoxN X (W.heap.size) 49 #[.int .i64 0,.int .i64 0,.int .i64 0,.int .i64 0,.int .u32 0,.int .u32 0,.int .u64 0,.int .u64 0,.int .i64 0]∧(∃cs',Off w0 X g a ac b V vc cs' {s with qs:=s.qs.set k (l.eraseIdx i)} op seat)∧Spare W X) ⟨hall.1,⟨_,hall.2.1⟩,hall.2.2⟩ fun Y ⟨b',hO,hS⟩=> ?_
  clear hall
  have gg:=b'.x9
  exact bodyPost_ret (v:=.agg #[.int .i64 0,.int .i64 0,.int .i64 0,.int .i64 0,.int .u32 0,.int .u32 0,.int .u64 0,.int .u64 0,.int .i64 0]) (by simp[results,Tryz.results105,go_sem,gg]) rfl (show OpPost2 w0 W g a ac b V vc op seat MM _ _ from by rw[HM.out];exact⟨rfl,hO,hS⟩)
end Go.Proofs.YtlckmjiioohcmaaGreatDoor

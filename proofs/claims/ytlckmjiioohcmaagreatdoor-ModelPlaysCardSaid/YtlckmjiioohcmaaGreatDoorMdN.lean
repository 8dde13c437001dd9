/-
  Walk of the comparison in the office's tick. Conditions: as each theorem says.
  The office's tick: its data; what a sort of numbers leaves of an office; the comparison. Conditions: as each theorem says.
  Walk of the office's tick. Conditions: as the theorem says.
-/
import Derived.Test.YtlckmjiioohcmaaGreatDoorMdK
import Derived.Test.YtlckmjiioohcmaaGreatDoorSoH
namespace Go.Proofs.YtlckmjiioohcmaaGreatDoor
open Go.RowKit
theorem compare_any (x y:Int) (w:World):Calls Tryz.prog 144 #[.int .i64 x,.int .i64 y] w fun e w'=>e=.returned (.int .i64 (cmpI x y))∧Below w.heap.size w w':=by
 unfold cmpI
 go_enter Tryz.func144,Tryz.ntmps144
 by_cases h1:x<y
 ·rw[if_pos h1]
  go_wp2
  go_ret
  exact⟨rfl,Below.refl _ _⟩
 ·rw[if_neg h1]
  by_cases h2:y<x
  ·rw[if_pos h2]
   go_wp2
   go_ret
   exact⟨rfl,Below.refl _ _⟩
  ·rw[if_neg h2]
   go_wp2
   go_ret
   exact⟨rfl,Below.refl _ _⟩
def tillAt (s:Md) (x:Int):Int:=(seatAt s x.toNat).till
set_option maxHeartbeats 4000000 in
theorem tickLess_any {W:World} {g a ac b pb vc B:Nat} {V:Option Addr} {s:Md} {op:MOp} {seat:Int} {x y:Nat} (hb:BoxN W g 126 (offCells V vc a ac b s op seat).toArray) (hs:Own sxR 81 B W (.slice (some ⟨a,0,none⟩) s.seats.length ac) s.seats)
 (hp:W.cell? ⟨pb,0,none⟩=some (.pointer (some ⟨g,0,none⟩))) (hx:x<s.seats.length) (hy:y<s.seats.length):
 Calls Tryz.prog 143 #[.int .i64 (x:Int),.int .i64 (y:Int),.pointer (some ⟨pb,0,none⟩)] W fun e w'=>e=.returned (.int .i64 (cmpI (tillAt s x) (tillAt s y)))∧Below W.heap.size W w':=by
 obtain⟨ds,⟨rfl,_⟩,hd,_⟩:=hs.cell_ hx
 obtain⟨es,⟨rfl,_⟩,he,_⟩:=hs.cell_ hy
 have d2:=hd 2 _ rfl
 have e2:=he 2 _ rfl
 have tx:tillAt s x=s.seats[x].till:=by simp[tillAt,seatAt,hx]
 have ty:tillAt s y=s.seats[y].till:=by simp[tillAt,seatAt,hy]
 rw[tx,ty]
 have c5:=hb.cell 5 (.slice (some ⟨a,0,none⟩) s.seats.length ac) rfl
 simp only[sxR] at d2 e2
 have C:=Lib.hid (fun X=>compare_any s.seats[x].till s.seats[y].till X)
 generalize s.seats[x].till=p at*
 generalize s.seats[y].till=q at*
 have g1:=gro_cell d2
 have g2:=gro_cell e2
 have g3:=gro_cell c5
 have g4:=gro_cell hp
 have n1:(x:Int)<(s.seats.length:Int):=by omega
 have n2:(y:Int)<(s.seats.length:Int):=by omega
 have hzg:=hb.lt
 clear hd he d2 e2 c5 hp hb hs tx ty
 go_enter Tryz.func143,Tryz.ntmps143
 go_upto_region 1 with fail
 refine wp_region_gro (by kernel_rfl) (by kernel_rfl) ?_
 repeat(go_big_quiet_step (first|(refine Calls.gro_of (C.out _))|fail))
 refine wpQuiet_nil ?_
 rintro _ ⟨p,rfl⟩
 have hg:=gro_below W p
 generalize gro W p=w2 at hg⊢
 have HG:=Lib.hid hg
 clear hg g1 g2 g3 g4 C
 go_wp2_with fail
 go_ret
 exact⟨rfl,HG.out⟩
end Go.Proofs.YtlckmjiioohcmaaGreatDoor
namespace Go.Proofs.YtlckmjiioohcmaaGreatDoor
open Go.RowKit
theorem Off.kept_tag {w0 W W':World} {g a ac b gd:Nat} {V:Option Addr} {vc:Nat} {cs:List Value} {s:Md} {op:MOp} {seat:Int} {t:TypeId} (h:Off w0 W g a ac b V vc cs s op seat) (hg:W.grownBy W' (some gd)) (hx:Tag W gd t) (hB:w0.heap.size≤gd)
 (n1:t≠126) (n2:t≠81) (n3:t≠85) (n4:t≠41):Off w0 W' g a ac b V vc cs s op seat:=by
 refine⟨h.bw.grown hg h.bw.size (fun j hj=>by injection hj with hj;omega),h.gB,h.bB,h.box.kept hg (fun e=>(Tag.of_box h.box).ne hx (Ne.symm n1) (by injection e)),h.vs,
  h.ss.kept hg (fun k hk e=>(Tag.of_own h.ss).ne hx (Ne.symm n2) (by cases hk;injection e with e;exact e.symm)) (fun cs y h=>sxR_flat _ _ _ _ h),
  h.qb.kept hg (fun e=>(Tag.of_box h.qb).ne hx (Ne.symm n3) (by injection e)),h.ql,fun j l hj=> ?_,h.bv,h.bn,h.bo,h.bs⟩
 obtain⟨A,c,h3,h4⟩:=h.qq j l hj
 exact⟨A,c,h3,h4.kept hg hx n4⟩
theorem Off.setNow {w0 W:World} {g a ac b:Nat} {V:Option Addr} {vc:Nat} {cs:List Value} {s:Md} {op:MOp} {seat:Int} (h:Off w0 W g a ac b V vc cs s op seat) {t:Int} (ht:Bd t):
 Off w0 (W.setCell ⟨g,4,none⟩ (.int .i64 t)) g a ac b V vc cs {s with now:=t} op seat:=by
 have hg:=grownBy_set W g 4 (.int .i64 t)
 have hgB:=h.gB
 refine⟨h.bw.grown hg h.bw.size (fun j hj=>by injection hj with hj;omega),h.gB,h.bB, ?_,h.vs,h.ss.kept_box hg h.box (by decide) sxR_flat,h.qb.kept hg (fun e=>h.gb (by injection e with e;exact e.symm)),h.ql,fun j l hj=> ?_,h.bv,ht,h.bo,h.bs⟩
 ·have:=h.box.set 4 (.int .i64 t)
  simpa[offCells] using this
 ·obtain⟨A,c,h3,h4⟩:=h.qq j l hj
  exact⟨A,c,h3,h4.kept hg (Tag.of_box h.box) (by decide)⟩
def dueFrom (now:Int):Nat→List Sx→List Int
 |_,[]=>[]
 |i,x::l=>if(passT x.till now).1=true∧x.state=1 then(i:Int)::dueFrom now (i+1) l else dueFrom now (i+1) l
theorem dueFrom_mem {now:Int}:∀{l:List Sx} {i:Nat} {y:Int},y∈dueFrom now i l→∃k:Nat,y=(k:Int)∧i≤k∧k<i+l.length
 |[],_,_,h=>absurd h (by simp[dueFrom])
 |x::l,i,y,h=>by
  unfold dueFrom at h
  split at h
  ·rcases List.mem_cons.1 h with rfl|h
   ·exact⟨i,rfl,Nat.le_refl _,by simp⟩
   ·obtain⟨k,h1,h2,h3⟩:=dueFrom_mem h
    exact⟨k,h1,by omega,by rw[List.length_cons];omega⟩
  ·obtain⟨k,h1,h2,h3⟩:=dueFrom_mem h
   exact⟨k,h1,by omega,by rw[List.length_cons];omega⟩
theorem dueFrom_asc {now:Int}:∀(l:List Sx) (i:Nat),(dueFrom now i l).Pairwise (· < ·)
 |[],_=>List.Pairwise.nil
 |x::l,i=>by
  unfold dueFrom
  split
  ·refine List.pairwise_cons.2 ⟨fun y hy=> ?_,dueFrom_asc l (i+1)⟩
   obtain⟨k,rfl,h2,_⟩:=dueFrom_mem hy
   omega
  ·exact dueFrom_asc l (i+1)
theorem dueFrom_len {now:Int}:∀(l:List Sx) (i:Nat),(dueFrom now i l).length≤l.length
 |[],_=>Nat.le_refl _
 |x::l,i=>by
  have:=dueFrom_len (now:=now) l (i+1)
  unfold dueFrom
  split
  ·simp only[List.length_cons];omega
  ·simp only[List.length_cons];omega
theorem dueFrom_cons (now:Int) (i:Nat) (x:Sx) (l:List Sx):dueFrom now i (x::l)=if(passT x.till now).1=true∧x.state=1 then(i:Int)::dueFrom now (i+1) l else dueFrom now (i+1) l:=rfl
theorem dueFrom_append {now:Int}:∀(l m:List Sx) (i:Nat),dueFrom now i (l++m)=dueFrom now i l++dueFrom now (i+l.length) m
 |[],m,i=>by simp[dueFrom]
 |x::l,m,i=>by
  have h:=dueFrom_append (now:=now) l m (i+1)
  have e:i+(x::l).length=i+1+l.length:=by rw[List.length_cons];omega
  rw[e,List.cons_append,dueFrom_cons,dueFrom_cons]
  split
  ·rw[h,List.cons_append]
  ·exact h
def expireM (s:Md) (i:Nat):Md:=offerM (setM s i (sxExpire (seatAt s i) s.now).1) i
theorem offerM_same (s:Md) (i:Nat):(offerM s i).ve=s.ve∧(offerM s i).now=s.now∧(offerM s i).seats.length=s.seats.length∧(offerM s i).qs.length=s.qs.length:=by
 unfold offerM
 split<;>simp
theorem expireM_same (s:Md) (i:Nat):(expireM s i).ve=s.ve∧(expireM s i).now=s.now∧(expireM s i).seats.length=s.seats.length∧(expireM s i).qs.length=s.qs.length:=by
 have h:=offerM_same (setM s i (sxExpire (seatAt s i) s.now).1) i
 unfold expireM
 refine⟨h.1,h.2.1,h.2.2.1.trans (by simp[setM]),h.2.2.2⟩
def dueM (s:Md):List Int:=dueFrom s.now 0 s.seats
def tickM (s:Md) (op:MOp):Md×MRp:=
 if op.now<s.now then(s,{noRp with err:=18})
 else((srt (tillAt {s with now:=op.now}) (dueM {s with now:=op.now})).foldl (fun s x=>expireM s x.toNat) {s with now:=op.now},noRp)
def MdLaid (s:Md):Prop:=∀i,i<s.seats.length→0≤(placeV s.ve i).1.sec∧secOf s i<s.qs.length
theorem MdLaid.expire {s:Md} (h:MdLaid s) (i:Nat):MdLaid (expireM s i):=by
 obtain⟨h1,_,h3,h4⟩:=expireM_same s i
 intro k hk
 have:=h k (by omega)
 unfold secOf at*
 rw[h1,h4]
 exact this
theorem enters_fn2 {P:Program} {f:FuncId} {fn:Func} {c:Code} (hf:P.funcs[f]?=some fn) (hname:(fn.name== "runtime.NumGoroutine")=false) (hb:fn.body=some c) (args:Array Value) (w:World):(callFunc f args).run P w=.ok (.enter f args) w:=by
 have h1:fn.name≠ "runtime.NumGoroutine":=by simpa using hname
 simp[callFunc,hf,h1,hb,mark]
theorem tickCmp {w0 W:World} {g a ac b gd n cap pb B:Nat} {V:Option Addr} {vc:Nat} {cs:List Value} {s:Md} {op:MOp} {seat:Int} {due:List Int} (h:Off w0 W g a ac b V vc cs s op seat) (hp:BoxN W pb 124 #[.pointer (some ⟨g,0,none⟩)])
 (hd:Own intR 3 B W (.slice (some ⟨gd,0,none⟩) n cap) due) (hB:w0.heap.size≤B) (hdue:∀y∈due,∃k:Nat,y=(k:Int)∧k<s.seats.length):
 CmpOk W gd 143 #[.pointer (some ⟨pb,0,none⟩)] (tillAt s) due:=by
 refine⟨fun args w=>enters_fn2 Tryz.func143 (by kernel_rfl) rfl args w,fun X x y hX hx hy=> ?_⟩
 have hT:=Tag.of_own hd
 have h':=h.kept_tag hX hT (Nat.le_trans hB hd.block.1) (by decide) (by decide) (by decide) (by decide)
 have hp':=hp.kept hX (fun e=>(Tag.of_box hp).ne hT (by decide) (by injection e))
 obtain⟨k,rfl,hk⟩:=hdue x hx
 obtain⟨m,rfl,hm⟩:=hdue y hy
 exact tickLess_any h'.box h'.ss (hp'.cell 0 _ rfl) hk hm
end Go.Proofs.YtlckmjiioohcmaaGreatDoor
namespace Go.Proofs.YtlckmjiioohcmaaGreatDoor
open Go.RowKit
theorem sxExpire_ok {x:Sx} {d:Int} (h:SxOk x):SxOk (sxExpire x d).1:=by
 unfold sxExpire
 split
 ·exact h
 ·split
  ·exact sxOpen_ok h
  ·exact h
theorem Own.only {e B x y z:Nat} {W W':World} {v:Value} {xs:List Int} (h:Own intR e B W v xs) (ho:Only3 x y z W W') (hne:∀k,v.ownBlock=some k→k≠x∧k≠y∧k≠z):Own intR e B W' v xs:=by
 obtain⟨cells,hr,hm⟩:=h
 have hm':intR.many W' cells xs:=by
  have:=(ints_of_many hm)
  rw[this.1]
  exact many_ints this.2
 refine⟨cells,⟨hr.1, ?_⟩,hm'⟩
 rcases hr.2 with h2|⟨g,cap,cur,hv,hB,hg,r⟩
 ·exact .inl h2
 ·have hk:=hne g (by rw[hv];rfl)
  exact .inr ⟨g,cap,cur,hv,hB,(ho.block g (Array.getElem?_eq_some_iff.1 hg).1 hk.1 hk.2.1 hk.2.2).trans hg,r⟩
def foldE (l:List Int) (s:Md):Md:=l.foldl (fun s x=>expireM s x.toNat) s
theorem foldE_same:∀(l:List Int) (s:Md),(foldE l s).now=s.now∧(foldE l s).seats.length=s.seats.length∧(MdLaid s→MdLaid (foldE l s))
 |[],_=>⟨rfl,rfl,id⟩
 |x::l,s=>by
  obtain⟨h1,h2,h3⟩:=foldE_same l (expireM s x.toNat)
  obtain⟨_,e2,e3,_⟩:=expireM_same s x.toNat
  exact⟨h1.trans e2,h2.trans e3,fun h=>h3 (h.expire _)⟩
theorem infoIm:(Tryz.prog.info? 3).map (fun i=>(i.zero,i.size,i.bytes))=some (some (.int .i64 0),intR.size,8):=by kernel_rfl
set_option maxHeartbeats 4000000 in
set_option maxRecDepth 20000 in
theorem tick_any {w0 W:World} {g a ac b:Nat} {V:Option Addr} {vc:Nat} {cs:List Value} {s:Md} {op:MOp} {seat:Int} (h:Off w0 W g a ac b V vc cs s op seat) (hl:MdLaid s) (hlen:s.seats.length≤1000000):
 Calls Tryz.prog 106 #[.pointer (some ⟨g,0,none⟩)] W (OpPost w0 W g a ac b V vc op seat (tickM s op)):=by
 have hwb:=h.bw.size
 have HM:=Lib.hid (show tickM s op=if op.now<s.now then(s,⟨18,0,0,0,noTk,0⟩) else((srt (tillAt {s with now:=op.now}) (dueM {s with now:=op.now})).foldl (fun s x=>expireM s x.toNat) {s with now:=op.now},⟨0,0,0,0,noTk,0⟩) from rfl)
 generalize tickM s op=MM at HM⊢
 have hbn:=h.bo.2.2.2.2.2.2.2.2
 have H:=Lib.hid h
 have HL:=Lib.hid hl
 clear h hl
 go_enter Tryz.func106,Tryz.ntmps106
 go_upto_region 1 with fail
 refine at_world (fun X=>Below W.heap.size W X∧BoxN X W.heap.size 124 #[.pointer (some ⟨g,0,none⟩)]∧BoxN X (W.heap.size+1) 49 #[.int .i64 0,.int .i64 0,.int .i64 0,.int .i64 0,.int .u32 0,.int .u32 0,.int .u64 0,.int .u64 0,.int .i64 0]∧W.heap.size+1<X.heap.size)
  ⟨(ba _ _).alloc (by simp[World.size_alloc]) _,(BoxN.new _ _ _).later (ba _ _),by have:=BoxN.new (W.alloc (.cells #[.pointer (some ⟨g,0,none⟩)] 124)) 49 #[.int .i64 0,.int .i64 0,.int .i64 0,.int .i64 0,.int .u32 0,.int .u32 0,.int .u64 0,.int .u64 0,.int .i64 0];rwa[World.size_alloc] at this,by simp[World.size_alloc]⟩ fun w1 hw1=> ?_
 obtain⟨hb1,p1,r1,hz1⟩:=hw1
 generalize hpb:W.heap.size=pb at p1 r1 hz1⊢
 have H1:=Lib.hid (H.out.up hb1)
 have P1:=Lib.hid p1
 have R1:=Lib.hid r1
 have HB1:=Lib.hid hb1
 have u0:=p1.cell 0 (.pointer (some ⟨g,0,none⟩)) rfl
 have u1:=H1.out.box.cell 4 (.int .i64 s.now) rfl
 have u2:=H1.out.box.cell 18 (.int .i64 op.now) rfl
 have zg:=H1.out.box.lt
 have zp:=p1.lt
 clear hb1 p1 r1 H
 have HPB:=Lib.hid (show w0.heap.size≤pb∧W.heap.size=pb from⟨by rw[←hpb];exact hwb,hpb⟩)
 clear hpb
 by_cases hpast:op.now<s.now
 ·replace HM:=Lib.hid (show MM=(s,⟨18,0,0,0,noTk,0⟩) by rw[HM.out,if_pos hpast])
  have t:decide (op.now<s.now)=true:=by simpa using hpast
  clear hpast
  go_quiet (fail)
  go_upto_region 2 with fail
  refine at_world (fun X=>Below w1.heap.size w1 X) (bdN (Below.refl _ _) _) fun w2 hb=> ?_
  have H2:=Lib.hid (H1.out.up hb)
  have R2:=Lib.hid (R1.out.later hb)
  have HB2:=Lib.hid (Only3.of g a b (bstep HB1.out hb))
  clear hb u0 u1 u2 zg zp hz1
  obtain⟨dc0,df0,dc1,df1,dc2,df2,dc3,df3,dc4,df4,dc5,df5,dc6,df6,dc7,df7,dc8,df8,dz⟩:=R2.out.x9
  go_wp2_with fail
  have b':=R2.out.set9 (.int .i64 18) (.int .i64 0) (.int .i64 0) (.int .i64 0) (.int .u32 0) (.int .u32 0) (.int .u64 0) (.int .u64 0) (.int .i64 0)
  have hg:=grownBy_putAt [.int .i64 18,.int .i64 0,.int .i64 0,.int .i64 0,.int .u32 0,.int .u32 0,.int .u64 0,.int .u64 0,.int .i64 0] w2 (pb+1) 0
  simp only[putAt,Nat.zero_add,Nat.reduceAdd] at hg
  have hall:=And.intro b' (And.intro (H2.out.new hg (Tag.of_box R2.out) (by have:=HPB.out;omega) (by decide) (by decide) (by decide) (by decide)) (HB2.out.new hg (by have:=HPB.out;omega)))
  clear b' hg dc0 df0 dc1 df1 dc2 df2 dc3 df3 dc4 df4 dc5 df5 dc6 df6 dc7 df7 dc8 df8 dz
  refine at_world (fun X=>BoxN X (pb+1) 49 #[.int .i64 18,.int .i64 0,.int .i64 0,.int .i64 0,.int .u32 0,.int .u32 0,.int .u64 0,.int .u64 0,.int .i64 0]∧(∃cs',Off w0 X g a ac b V vc cs' (s) op seat)∧Only3 g a b W X) ⟨hall.1,⟨_,hall.2.1⟩,hall.2.2⟩ fun Y ⟨b',hO,hY⟩=> ?_
  clear hall
  have gg:=b'.x9
  exact bodyPost_ret (v:=.agg #[.int .i64 18,.int .i64 0,.int .i64 0,.int .i64 0,.int .u32 0,.int .u32 0,.int .u64 0,.int .u64 0,.int .i64 0]) (by simp[results,Tryz.results106,go_sem,gg]) rfl (show OpPost w0 W g a ac b V vc op seat MM _ _ from by rw[HM.out];exact⟨rfl,hO,hY⟩)
 ·replace HM:=Lib.hid (show MM=((srt (tillAt {s with now:=op.now}) (dueM {s with now:=op.now})).foldl (fun s x=>expireM s x.toNat) {s with now:=op.now},⟨0,0,0,0,noTk,0⟩) by rw[HM.out,if_neg hpast])
  have t:decide (op.now<s.now)=false:=by simpa using hpast
  clear hpast
  go_quiet (fail)
  go_upto_region 3 with fail
  refine at_world (fun X=>Below w1.heap.size w1 X) (bdN (Below.refl _ _) _) fun w2 hb=> ?_
  have H2:=Lib.hid (H1.out.up hb)
  have R2:=Lib.hid (R1.out.later hb)
  have P2:=Lib.hid (P1.out.later hb)
  have HB2:=Lib.hid (bstep HB1.out hb)
  clear hb u0 u1 u2 zg zp hz1
  have u0:=P2.out.cell 0 (.pointer (some ⟨g,0,none⟩)) rfl
  have u1:=H2.out.box.cell 4 (.int .i64 s.now) rfl
  have u2:=H2.out.box.cell 18 (.int .i64 op.now) rfl
  have f1:=H2.out.box.frozen 4
  have zg:=H2.out.box.lt
  have zp:=P2.out.lt
  go_region
  go_upto_region 5 with fail
  clear u0 u1 u2 f1 zg zp
  obtain⟨s1,hs1⟩:∃s1:Md,s1={s with now:=op.now}:=⟨_,rfl⟩
  have hall:Off w0 (w2.drew.setCell ⟨g,4,none⟩ (.int .i64 op.now)) g a ac b V vc cs s1 op seat∧BoxN (w2.drew.setCell ⟨g,4,none⟩ (.int .i64 op.now)) pb 124 #[.pointer (some ⟨g,0,none⟩)]∧BoxN (w2.drew.setCell ⟨g,4,none⟩ (.int .i64 op.now)) (pb+1) 49 #[.int .i64 0,.int .i64 0,.int .i64 0,.int .i64 0,.int .u32 0,.int .u32 0,.int .u64 0,.int .u64 0,.int .i64 0]∧Only3 g a b W (w2.drew.setCell ⟨g,4,none⟩ (.int .i64 op.now)):=by
   rw[hs1]
   exact⟨(H2.out.up (bdd (Below.refl _ _))).setNow hbn,(P2.out.later (bdd (Below.refl _ _))).other (box_ne P2.out H2.out.box (by decide)) _,(R2.out.later (bdd (Below.refl _ _))).other (box_ne R2.out H2.out.box (by decide)) _,
    (Only3.of g a b (HB2.out.trans ((bdd (Below.refl _ _)).mono HB2.out.size))).trans (Only3.grown (grownBy_set _ _ _ _) (.inl rfl))⟩
  refine at_world (fun X=>Off w0 X g a ac b V vc cs s1 op seat∧BoxN X pb 124 #[.pointer (some ⟨g,0,none⟩)]∧BoxN X (pb+1) 49 #[.int .i64 0,.int .i64 0,.int .i64 0,.int .i64 0,.int .u32 0,.int .u32 0,.int .u64 0,.int .u64 0,.int .i64 0]∧Only3 g a b W X) hall fun w3 hw3=> ?_
  obtain⟨h3,p3,r3,o3⟩:=hw3
  rw[←hs1] at HM
  have HL1:=Lib.hid (show MdLaid s1 by rw[hs1];exact HL.out)
  have hlen1:s1.seats.length≤1000000:=by rw[hs1];exact hlen
  have HN:=Lib.hid (show s1.now=op.now by rw[hs1])
  clear hall H1 H2 R1 R2 P1 P2 HB1 HB2 t HL hs1 hlen
  have H3:=Lib.hid h3
  have P3:=Lib.hid p3
  have R3:=Lib.hid r3
  have O3:=Lib.hid o3
  have u0:=p3.cell 0 (.pointer (some ⟨g,0,none⟩)) rfl
  have u5:=h3.box.cell 5 (.slice (some ⟨a,0,none⟩) s1.seats.length ac) rfl
  have zg:=h3.box.lt
  have zp:=p3.lt
  clear h3 p3 r3 o3
  go_wp2_with fail
  clear u0 u5 zg zp
  go_loopw [37,3] (fun i v wr=> ∃k:Nat,i=.int .i64 (k:Int)∧k≤s1.seats.length∧Hid (Own intR 3 w3.heap.size wr v (dueFrom s1.now 0 (s1.seats.take k))∧Below w3.heap.size w3 wr)) (fun i _ _=>s1.seats.length-(intOf i).toNat)
  case atStart=>
   exact⟨0,rfl,Nat.zero_le _,by simpa[dueFrom] using Own.nil intR 3 w3.heap.size w3,Below.refl _ _⟩
  case round=>
   obtain⟨k,rfl,hk,hr⟩:=hrel
   have HR:=Lib.hid hr
   clear hr
   by_cases hlt:k<s1.seats.length
   ·have ht:decide ((k:Int)<(s1.seats.length:Int))=true:=by simp;omega
    have H4:=Lib.hid (H3.out.up HR.out.2)
    have P4:=Lib.hid (P3.out.later HR.out.2)
    obtain⟨ds,⟨rfl,_⟩,hd,hf⟩:=H4.out.ss.cell_ hlt
    have d0:=hd 0 _ rfl
    have d1:=hd 1 _ rfl
    have d2:=hd 2 _ rfl
    have d3:=hd 3 _ rfl
    have d4:=hd 4 _ rfl
    simp only[sxR,Nat.add_zero] at d0 d1 d2 d3 d4
    have za:=H4.out.aB.2
    have hk0:(0:Int)≤(k:Int):=by omega
    have hk1:(k:Int)<(s1.seats.length:Int):=by omega
    have nk:IntKind.i64.wrap ((k:Int)+1)=(k:Int)+1:=IntWalk.i64_in _ (by omega)
    have HX:=Lib.hid (show s1.seats.take (k+1)=s1.seats.take k++[s1.seats[k]] from List.take_succ_eq_append_getElem hlt)
    have C:=Lib.hid (fun X=>passed_any s1.seats[k].till s1.now X)
    clear hd hf
    generalize s1.seats[k]=x at*
    obtain⟨st,ow,ti,se,ep⟩:=x
    simp only at d0 d1 d2 d3 d4
    go_upto_region 8 with fail
    refine at_world (fun X=>Below wr.heap.size wr X∧BoxN X wr.heap.size 81 #[.int .i64 st,.int .u32 ow,.int .i64 ti,.int .u64 se,.int .u64 ep]) ⟨ba _ _,BoxN.new _ _ _⟩ fun w5 hw5=> ?_
    obtain⟨hb5,x5⟩:=hw5
    generalize wr.heap.size=nx at x5⊢
    have H5:=Lib.hid (H4.out.up hb5)
    have P5:=Lib.hid (P4.out.later hb5)
    have OW5:=Lib.hid (And.intro (HR.out.1.up hb5) (HR.out.2.trans (hb5.mono HR.out.2.size)))
    have X5:=Lib.hid x5
    have g1:=gro_cell (x5.cell 2 (.int .i64 ti) rfl)
    have g2:=gro_cell (P5.out.cell 0 (.pointer (some ⟨g,0,none⟩)) rfl)
    have g3:=gro_cell (H5.out.box.cell 4 (.int .i64 s1.now) rfl)
    clear hb5 x5 d0 d1 d2 d3 d4 za
    refine wp_region_gro (by kernel_rfl) (by kernel_rfl) ?_
    repeat(go_big_quiet_step (first|(refine Calls.gro_of (C.out _))|fail))
    refine wpQuiet_nil ?_
    rintro _ ⟨p,rfl⟩
    have hg:=gro_below w5 p
    generalize gro w5 p=w6 at hg⊢
    have OW6:=Lib.hid (And.intro (OW5.out.1.up hg) (OW5.out.2.trans (hg.mono OW5.out.2.size)))
    have x0:=(X5.out.later hg).cell 0 (.int .i64 st) rfl
    have zx:=(X5.out.later hg).lt
    clear g1 g2 g3 hg C
    have HD:=Lib.hid (show dueFrom s1.now 0 (s1.seats.take (k+1))=dueFrom s1.now 0 (s1.seats.take k)++(if(passT ti s1.now).1=true∧st=1 then[(k:Int)] else[]) by
     rw[HX.out,dueFrom_append,List.length_take,Nat.min_eq_left hk,Nat.zero_add,dueFrom_cons]
     split<;>rfl)
    generalize(passT ti s1.now).1=ps at HD⊢
    have hdl:=dueFrom_len (now:=s1.now) (s1.seats.take k) 0
    rw[List.length_take] at hdl
    have hns:w3.heap.size≤w6.heap.size:=OW6.out.2.size
    by_cases hdue:ps=true∧st=1
    ·replace HD:=Lib.hid (show dueFrom s1.now 0 (s1.seats.take (k+1))=dueFrom s1.now 0 (s1.seats.take k)++[(k:Int)] by rw[HD.out,if_pos hdue])
     obtain⟨rfl,rfl⟩:=hdue
     go_wp2_with (at_builtin;refine wpList_append_sl _ rfl (.tmp 59) (.tmp 61) 65 rfl intR w3.heap.size 3 _ 8 Tryz.underlying65 infoIm rfl (by decide) _ (dueFrom s1.now 0 (s1.seats.take k)) rfl (OW6.out.1.up (ba _ _)) _ [(k:Int)] rfl (sl_one _ _ _ _ rfl (by unfold Bd;omega)) (by simp;omega) (by decide) (by simp[World.size_alloc];omega) (fun w' _ cs y h=>intR_flat _ _ _ _ h) ?_;intro v1 w7 hown1 hg1 hat1)
     refine⟨⟨k+1,rfl,by omega, ?_, ?_⟩,by simp[intOf];omega⟩
     ·rw[HD.out]
      exact hown1
     ·exact(OW6.out.2.trans ((ba _ _).mono hns)).grown hg1 (by simp[World.size_alloc];omega) (fun j hj=>(OW6.out.1.lt j hj).1)
    ·replace HD:=Lib.hid (show dueFrom s1.now 0 (s1.seats.take (k+1))=dueFrom s1.now 0 (s1.seats.take k) by rw[HD.out,if_neg hdue,List.append_nil])
     cases ps with
     |false=>
      go_wp2_with fail
      refine⟨⟨k+1,rfl,by omega, ?_,OW6.out.2⟩,by simp[intOf];omega⟩
      rw[HD.out]
      exact OW6.out.1
     |true=>
      have hst:¬st=1:=fun e=>hdue ⟨rfl,e⟩
      go_wp2_with fail
      refine⟨⟨k+1,rfl,by omega, ?_,OW6.out.2⟩,by simp[intOf];omega⟩
      rw[HD.out]
      exact OW6.out.1
   ·have ht:decide ((k:Int)<(s1.seats.length:Int))=false:=by simp;omega
    obtain rfl:k=s1.seats.length:=by omega
    have HOD:=Lib.hid (show Own intR 3 w3.heap.size wr u3 (dueM s1)∧Below w3.heap.size w3 wr from⟨by have:=HR.out.1;rwa[List.take_length] at this,HR.out.2⟩)
    have H4:=Lib.hid (H3.out.up HR.out.2)
    have P4:=Lib.hid (P3.out.later HR.out.2)
    have R4:=Lib.hid (R3.out.later HR.out.2)
    have O4:=Lib.hid (O3.out.trans (Only3.of g a b HR.out.2))
    have hw3:w0.heap.size≤w3.heap.size:=H3.out.bw.size
    have hlow:W.heap.size≤w3.heap.size:=O3.out.size
    have hdl:=dueFrom_len (now:=s1.now) s1.seats 0
    have hmem:∀y∈dueM s1,∃k:Nat,y=(k:Int)∧k<s1.seats.length:=fun y hy=>by
     obtain⟨k,h1,_,h3⟩:=dueFrom_mem hy
     exact⟨k,h1,by omega⟩
    have hC:Calls Tryz.prog 142 #[u3,.func (.func 143) #[] #[.pointer (some ⟨pb,0,none⟩)]] wr fun e w'=>e=.returned (.tuple #[])∧Own intR 3 w3.heap.size w' u3 (srt (tillAt s1) (dueM s1))∧Off w0 w' g a ac b V vc cs s1 op seat∧BoxN w' pb 124 #[.pointer (some ⟨g,0,none⟩)]∧BoxN w' (pb+1) 49 #[.int .i64 0,.int .i64 0,.int .i64 0,.int .i64 0,.int .u32 0,.int .u32 0,.int .u64 0,.int .u64 0,.int .i64 0]∧Only3 g a b W w':=by
     have hO:=HOD.out.1
     obtain⟨cells,ho,hm⟩:=HOD.out.1
     rcases ho.2 with⟨hv,hnil⟩|⟨gd,cap,cur,hv,hB,hgd,hrest⟩
     ·have hv:u3=.slice none 0 0:=hv
      have he:dueM s1=[]:=List.eq_nil_of_length_eq_zero hnil
      rw[he] at hO⊢
      rw[hv] at hO⊢
      refine(sortNil_any _ wr).mono ?_
      rintro e w' ⟨rfl,rfl⟩
      exact⟨rfl,hO,H4.out,P4.out,R4.out,O4.out⟩
     ·have hv:u3=.slice (some ⟨gd,0,none⟩) (dueM s1).length cap:=hv
      clear hgd hrest ho hm
      rw[hv] at hO⊢
      have hT:=Tag.of_own hO
      have hpb:=HPB.out
      refine(sortStable_any (n:=(dueM s1).length) (tickCmp H4.out P4.out hO hw3 hmem) hO rfl (by unfold dueM;omega) (dueFrom_asc _ _)).mono ?_
      rintro e w' ⟨rfl,ho',hg'⟩
      exact⟨rfl,ho',H4.out.kept_tag hg' hT (Nat.le_trans hw3 hB) (by decide) (by decide) (by decide) (by decide),P4.out.kept hg' (fun e=>(Tag.of_box P4.out).ne hT (by decide) (by injection e)),
       R4.out.kept hg' (fun e=>(Tag.of_box R4.out).ne hT (by decide) (by injection e)),O4.out.new hg' (Nat.le_trans hlow hB)⟩
    have C:=Lib.hid hC
    clear hC HR
    go_wp2_with fail
    refine C.out.mono ?_
    rintro e w8 ⟨rfl,hw8⟩
    have HLE:=Lib.hid (show∀y∈srt (tillAt s1) (dueM s1),∃k:Nat,y=(k:Int)∧k<s1.seats.length from fun y hy=>hmem y ((srt_spec (dueFrom_asc s1.seats 0)).1.mem_iff.1 hy))
    have hll:(srt (tillAt s1) (dueM s1)).length≤1000000:=by
     have e:=(srt_spec (key:=tillAt s1) (l:=dueM s1) (dueFrom_asc s1.seats 0)).1.length_eq
     rw[e]
     unfold dueM
     omega
    clear H3 P3 R3 O3 H4 P4 R4 O4 HOD hdl hmem C
    generalize srt (tillAt s1) (dueM s1)=l at hw8 HLE hll HM
    obtain⟨A,c,rfl,hcap,_,_⟩:=hw8.1.sl
    have HW8:=Lib.hid hw8
    clear hw8
    go_wp2_with fail
    go_loopw [69] (fun i wr=> ∃m:Nat,i=.int .i64 (m:Int)∧m≤l.length∧Hid ((∃cs',Off w0 wr g a ac b V vc cs' (foldE (l.take m) s1) op seat)∧Own intR 3 w3.heap.size wr (.slice A l.length c) l∧BoxN wr pb 124 #[.pointer (some ⟨g,0,none⟩)]∧BoxN wr (pb+1) 49 #[.int .i64 0,.int .i64 0,.int .i64 0,.int .i64 0,.int .u32 0,.int .u32 0,.int .u64 0,.int .u64 0,.int .i64 0]∧Only3 g a b W wr)) (fun i _=>l.length-(intOf i).toNat)
    case atStart=>
     obtain⟨q1,q2,q3,q4,q5⟩:=HW8.out
     exact⟨0,rfl,Nat.zero_le _,⟨_,q2⟩,q1,q3,q4,q5⟩
    case round=>
     obtain⟨m,rfl,hm,hr⟩:=hrel
     have HR:=Lib.hid hr
     clear hr
     by_cases hlt:m<l.length
     ·have ht:decide ((m:Int)<(l.length:Int))=true:=by simp;omega
      have hm0:(0:Int)≤(m:Int):=by omega
      have hm1:(m:Int)<(l.length:Int):=by omega
      have nm:IntKind.i64.wrap ((m:Int)+1)=(m:Int)+1:=IntWalk.i64_in _ (by omega)
      have hx:l.take (m+1)=l.take m++[l[m]]:=List.take_succ_eq_append_getElem hlt
      obtain⟨i,hi,hil⟩:=HLE.out l[m] (List.getElem_mem hlt)
      have HF:=Lib.hid (show foldE (l.take (m+1)) s1=expireM (foldE (l.take m) s1) i by
       rw[hx,hi]
       unfold foldE
       rw[List.foldl_append]
       rfl)
      obtain⟨fn,fl,fm⟩:=foldE_same (l.take m) s1
      have HML:=Lib.hid (fm HL1.out)
      have hil2:i<(foldE (l.take m) s1).seats.length:=by omega
      obtain⟨gg,he,_,hgl,cl,_,_⟩:=HR.out.2.1.atI hlt
      subst he
      have hlq:0≤(placeV (foldE (l.take m) s1).ve i).1.sec∧secOf (foldE (l.take m) s1) i<(foldE (l.take m) s1).qs.length:=HML.out i hil2
      have HPQ:=Lib.hid hlq
      rw[hi] at cl
      clear hlq hi hx fm fl
      have HFN:=Lib.hid fn
      clear fn HML
      generalize foldE (l.take m) s1=s2 at*
      rename World=>w4
      go_upto_region 16 with fail
      obtain⟨cs2,hoff⟩:=HR.out.1
      have H4:=Lib.hid hoff
      have hB4:=Lib.hid HR.out.2
      clear hoff cl
      obtain⟨ds,⟨rfl,hxo⟩,hd,hf⟩:=H4.out.ss.cell_ hil2
      have hsx:seatAt s2 i=s2.seats[i]:=by simp[seatAt,hil2]
      have HT:=Lib.hid (show expireM s2 i=offerM (setM s2 i (sxExpire s2.seats[i] s2.now).1) i by unfold expireM;rw[hsx])
      clear hsx
      have d0:=hd 0 _ rfl
      have d1:=hd 1 _ rfl
      have d2:=hd 2 _ rfl
      have d3:=hd 3 _ rfl
      have d4:=hd 4 _ rfl
      simp only[sxR,Nat.add_zero] at d0 d1 d2 d3 d4
      have za:=H4.out.aB.2
      have C3:=Lib.hid (fun X=>sxExpire_any s2.seats[i] s2.now X)
      have HOK:=Lib.hid (show SxOk (sxExpire s2.seats[i] s2.now).1 from sxExpire_ok hxo)
      clear hxo hd hf
      generalize s2.seats[i]=x at*
      generalize hr:sxExpire x s2.now=R at C3 HT HOK
      clear hr
      obtain⟨⟨r0,r1,r2,r3,r4⟩,re⟩:=R
      unfold sxV at C3
      simp only at C3
      have hi0:(0:Int)≤(i:Int):=by omega
      have hi1:(i:Int)<(s2.seats.length:Int):=by omega
      have g0:=gro_cell (hB4.out.2.1.cell 0 (.pointer (some ⟨g,0,none⟩)) rfl)
      have g4:=gro_cell (H4.out.box.cell 4 (.int .i64 s2.now) rfl)
      have g5:=gro_cell (H4.out.box.cell 5 (.slice (some ⟨a,0,none⟩) s2.seats.length ac) rfl)
      have q0:=gro_cell d0
      have q1:=gro_cell d1
      have q2:=gro_cell d2
      have q3:=gro_cell d3
      have q4:=gro_cell d4
      clear d0 d1 d2 d3 d4 za
      refine wp_region_gro_late 24 22 (by kernel_rfl) (by kernel_rfl) (fun _ _ _ _ _ h=>h) ?_
      simp only[List.take_succ_cons,List.take_zero,List.drop_succ_cons,List.drop_zero]
      repeat(go_big_quiet_step (first|(go_at_call 145;exact Calls.gro_of (C3.out _))|fail))
      refine wpQuiet_nil ?_
      rintro _ ⟨p,rfl⟩
      have hg:=gro_below w4 p
      have H5:=Lib.hid (H4.out.up hg)
      have B5:=Lib.hid (And.intro (hB4.out.1.up hg) (And.intro (hB4.out.2.1.later hg) (And.intro (hB4.out.2.2.1.later hg) (hB4.out.2.2.2.trans (Only3.of g a b hg)))))
      clear g0 g4 g5 q0 q1 q2 q3 q4 hg
      generalize gro w4 p=w5 at H5 B5⊢
      obtain⟨ds',⟨rfl,_⟩,hd,hf⟩:=H5.out.ss.cell_ hil2
      have d0:=hd 0 _ rfl
      have d1:=hd 1 _ rfl
      have d2:=hd 2 _ rfl
      have d3:=hd 3 _ rfl
      have d4:=hd 4 _ rfl
      simp only[sxR,Nat.add_zero] at d0 d1 d2 d3 d4
      have f0:=hf (i*5)
      have f1:=hf (i*5+1)
      have f2:=hf (i*5+2)
      have f3:=hf (i*5+3)
      have f4:=hf (i*5+4)
      have za:=H5.out.aB.2
      obtain⟨hs1,hs2⟩:=H5.out.set hil2 HOK.out
      simp only[putAt,sxCells] at hs1 hs2
      have hda:=(Tag.of_own B5.out.1).ne (Tag.of_own H5.out.ss) (by decide)
      have hq5:=B5.out.1.kept hs2 (fun k hk e=>hda (by injection e with e;injection hk with hk;rw[e];exact hk)) (fun cs y h=>intR_flat _ _ _ _ h)
      have hp5:=B5.out.2.1.kept hs2 (fun e=>(Tag.of_box B5.out.2.1).ne (Tag.of_own H5.out.ss) (by decide) (by injection e))
      have hr5:=B5.out.2.2.1.kept hs2 (fun e=>(Tag.of_box B5.out.2.2.1).ne (Tag.of_own H5.out.ss) (by decide) (by injection e))
      have ho5:=B5.out.2.2.2.trans (Only3.grown (g:=g) (a:=a) (b:=b) hs2 (.inr (.inl rfl)))
      have hall:=And.intro hs1 (And.intro hq5 (And.intro hp5 (And.intro hr5 ho5)))
      clear hd hf hs1 hs2 hq5 hp5 hr5 ho5 hda
      go_upto_region 17 with fail
      refine at_world (fun X=>Off w0 X g a ac b V vc cs2 (setM s2 i ⟨r0,r1,r2,r3,r4⟩) op seat∧Own intR 3 w3.heap.size X (.slice (some ⟨gg,0,none⟩) l.length c) l∧BoxN X pb 124 #[.pointer (some ⟨g,0,none⟩)]∧BoxN X (pb+1) 49 #[.int .i64 0,.int .i64 0,.int .i64 0,.int .i64 0,.int .u32 0,.int .u32 0,.int .u64 0,.int .u64 0,.int .i64 0]∧Only3 g a b W X) hall fun w6 h6=> ?_
      clear hall d0 d1 d2 d3 d4 f0 f1 f2 f3 f4 za H4 hB4 H5 B5
      have H6:=Lib.hid h6.1
      have B6:=Lib.hid h6.2
      have u0:=h6.2.2.1.cell 0 (.pointer (some ⟨g,0,none⟩)) rfl
      have C:=Lib.hid (offer_any h6.1 (i:=i) (by simpa[setM] using hil2) HPQ.out.1 HPQ.out.2)
      clear h6 C3
      go_wp2_with fail
      refine C.out.mono ?_
      rintro e w7 ⟨rfl,hoff7,h37⟩
      have H7:=Lib.hid hoff7
      have hne:=fun(k:Nat) (t:TypeId) (ht:Tag w6 k t) (n1:t≠126) (n2:t≠81) (n3:t≠85)=>(show k≠g∧k≠a∧k≠b from⟨ht.ne (Tag.of_box H6.out.box) n1,ht.ne (Tag.of_own H6.out.ss) n2,ht.ne (Tag.of_box H6.out.qb) n3⟩)
      have B7:=Lib.hid (And.intro (B6.out.1.only h37 (fun k hk=>by cases hk;exact hne _ _ (Tag.of_own B6.out.1) (by decide) (by decide) (by decide)))
       (And.intro (show BoxN w7 pb 124 #[.pointer (some ⟨g,0,none⟩)] from have t:=hne _ _ (Tag.of_box B6.out.2.1) (by decide) (by decide) (by decide);B6.out.2.1.only h37 t.1 t.2.1 t.2.2)
       (And.intro (show BoxN w7 (pb+1) 49 #[.int .i64 0,.int .i64 0,.int .i64 0,.int .i64 0,.int .u32 0,.int .u32 0,.int .u64 0,.int .u64 0,.int .i64 0] from have t:=hne _ _ (Tag.of_box B6.out.2.2.1) (by decide) (by decide) (by decide);B6.out.2.2.1.only h37 t.1 t.2.1 t.2.2) (B6.out.2.2.2.trans h37))))
      clear hoff7 h37 hne C u0
      go_wp2_with fail
      go_roundw
      case rel=>
       refine⟨m+1,by go_num,by omega, ?_,B7.out.1,B7.out.2.1,B7.out.2.2.1,B7.out.2.2.2⟩
       rw[HF.out,HT.out]
       exact H7.out
      case measure=>simp[intOf];omega
     ·have ht:decide ((m:Int)<(l.length:Int))=false:=by simp;omega
      obtain rfl:m=l.length:=by omega
      go_upto_region 19 with fail
      have R2:=Lib.hid HR.out.2.2.2.1
      obtain⟨cs',hoff⟩:=HR.out.1
      rw[List.take_length] at hoff
      have H2:=Lib.hid hoff
      have HB2:=Lib.hid HR.out.2.2.2.2
      clear hoff HR HW8
      obtain⟨dc0,df0,dc1,df1,dc2,df2,dc3,df3,dc4,df4,dc5,df5,dc6,df6,dc7,df7,dc8,df8,dz⟩:=R2.out.x9
      go_wp2_with fail
      have b':=R2.out.set9 (.int .i64 0) (.int .i64 0) (.int .i64 0) (.int .i64 0) (.int .u32 0) (.int .u32 0) (.int .u64 0) (.int .u64 0) (.int .i64 0)
      have hg:=grownBy_putAt [.int .i64 0,.int .i64 0,.int .i64 0,.int .i64 0,.int .u32 0,.int .u32 0,.int .u64 0,.int .u64 0,.int .i64 0] wr (pb+1) 0
      simp only[putAt,Nat.zero_add,Nat.reduceAdd] at hg
      have hall:=And.intro b' (And.intro (H2.out.new hg (Tag.of_box R2.out) (by have:=HPB.out;omega) (by decide) (by decide) (by decide) (by decide)) (HB2.out.new hg (by have:=HPB.out;omega)))
      clear b' hg dc0 df0 dc1 df1 dc2 df2 dc3 df3 dc4 df4 dc5 df5 dc6 df6 dc7 df7 dc8 df8 dz
      refine at_world (fun X=>BoxN X (pb+1) 49 #[.int .i64 0,.int .i64 0,.int .i64 0,.int .i64 0,.int .u32 0,.int .u32 0,.int .u64 0,.int .u64 0,.int .i64 0]∧(∃cs',Off w0 X g a ac b V vc cs' (foldE l s1) op seat)∧Only3 g a b W X) ⟨hall.1,⟨_,hall.2.1⟩,hall.2.2⟩ fun Y ⟨b',hO,hY⟩=> ?_
      clear hall
      have gg:=b'.x9
      exact bodyPost_ret (v:=.agg #[.int .i64 0,.int .i64 0,.int .i64 0,.int .i64 0,.int .u32 0,.int .u32 0,.int .u64 0,.int .u64 0,.int .i64 0]) (by simp[results,Tryz.results106,go_sem,gg]) rfl (show OpPost w0 W g a ac b V vc op seat MM _ _ from by rw[HM.out];exact⟨rfl,hO,hY⟩)
end Go.Proofs.YtlckmjiioohcmaaGreatDoor

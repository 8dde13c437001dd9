/-
  Walk of the office's offer. Conditions: as the theorem says.
  Walks of the office's freed, sold. Conditions: as each theorem says.
  Walks of the office's open, release, buy, transfer, refund, revoke, validate. Conditions: as each theorem says.
  Walks of the office's open, validate, hold. Conditions: as each theorem says.
-/
import Derived.Test.YtlckmjiioohcmaaGreatDoorMdE
import Derived.Test.YtlckmjiioohcmaaGreatDoorLib
import Derived.Deep.CutRange
import Derived.Deep.RegionHeld3
namespace Go.Proofs.YtlckmjiioohcmaaGreatDoor
open Go.RowKit
def seatAt (s:Md) (i:Nat):Sx:=s.seats.getD i zeroSx
def secOf (s:Md) (i:Nat):Nat:=(placeV s.ve i).1.sec.toNat
def offerM (s:Md) (i:Nat):Md:=match s.qs[secOf s i]? with
 |some (o::l)=>{s with seats:=s.seats.set i (sxHold (seatAt s i) o (untilM s s.ve.ttl)).1,qs:=s.qs.set (secOf s i) l}
 |_=>s
theorem sxHold_ok {x:Sx} {owner d:Int} (hx:SxOk x) (ho:U32 owner) (hd:Bd d):SxOk (sxHold x owner d).1:=by
 unfold sxHold
 split
 ·exact hx
 ·exact⟨by simp[Bd],ho,hd,hx.2.2.2⟩
theorem addT_bd (t d:Int) (ht:Bd t) (hd:Bd d):Bd (addT t d).1:=by
 unfold addT Bd at*
 split
 ·simp
 ·split
  ·simp
  ·constructor<;>simp<;>omega
theorem Off.setQ {w0 W:World} {g a ac b:Nat} {V:Option Addr} {vc:Nat} {cs:List Value} {s:Md} {op:MOp} {seat:Int} (h:Off w0 W g a ac b V vc cs s op seat) {k:Nat} {A:Option Addr} {c:Nat} {l:List Int} (hq:QuT W (.slice A l.length c) l):
 Off w0 (W.setCell ⟨b,k,none⟩ (.slice A l.length c)) g a ac b V vc (cs.set k (.slice A l.length c)) {s with qs:=s.qs.set k l} op seat∧W.grownBy (W.setCell ⟨b,k,none⟩ (.slice A l.length c)) (some b):=by
 have hg:=grownBy_set W b k (.slice A l.length c)
 have hb:=h.bB
 refine⟨⟨h.bw.grown hg h.bw.size (fun j hj=>by injection hj with hj;omega),h.gB,h.bB, ?_,h.vs,h.ss.kept_box hg h.qb (by decide) sxR_flat, ?_,by simp[h.ql],fun j l' hj=> ?_,h.bv,h.bn,h.bo,h.bs⟩,hg⟩
 ·have:=h.box.kept hg (fun e=>h.gb (by injection e))
  simpa[offCells] using this
 ·have:=h.qb.set k (.slice A l.length c)
  simpa using this
 ·rw[List.getElem?_set] at hj
  split at hj
  ·rename_i hkj
   subst hkj
   split at hj
   ·rename_i hlt
    injection hj with hj
    subst hj
    refine⟨A,c, ?_,hq.kept hg (Tag.of_box h.qb) (by decide)⟩
    have hlt':k<s.qs.length:=by simpa using hlt
    rw[List.getElem?_set_self (by rw[h.ql];exact hlt')]
   ·cases hj
  ·rename_i hkj
   obtain⟨A',c',h1,h2⟩:=h.qq j l' hj
   exact⟨A',c',by rw[List.getElem?_set_ne hkj];exact h1,h2.kept hg (Tag.of_box h.qb) (by decide)⟩
theorem QuT.tail {W:World} {bb off n d:Nat} {o:Int} {l:List Int} (h:QuT W (.slice (some ⟨bb,off,none⟩) n d) (o::l)):QuT W (.slice (some ⟨bb,off+1,none⟩) l.length (d-1)) l:=by
 obtain⟨h1,h2⟩:=h
 have hn:=h1.nil
 subst hn
 refine⟨?_,fun _ k hk=>h2 (by simp) k hk⟩
 have:=h1.drop (k:=1) (by simp) (o':=off+1) (n':=l.length) (c':=d-1) (by simp[u32R]) (by simp) rfl
 simpa using this
set_option maxHeartbeats 4000000 in
set_option maxRecDepth 20000 in
theorem offer_any {w0 W:World} {g a ac b:Nat} {V:Option Addr} {vc:Nat} {cs:List Value} {s:Md} {op:MOp} {seat:Int} (h:Off w0 W g a ac b V vc cs s op seat) {i:Nat} (hi:i<s.seats.length) (hp:0≤(placeV s.ve i).1.sec) (hq:secOf s i<s.qs.length):
 Calls Tryz.prog 146 #[.pointer (some ⟨g,0,none⟩),.int .i64 (i:Int)] W fun e w'=>e=.returned (.tuple #[])∧(∃cs',Off w0 w' g a ac b V vc cs' (offerM s i) op seat)∧Only3 g a b W w':=by
 have C1:=Lib.hid (fun X (hb:Below W.heap.size W X)=>place_any _ s.ve i X ⟨V,vc,rfl,(h.vs.up (h.bw.trans (hb.mono h.bw.size))),h.bv.1,h.bv.2.1,h.bv.2.2⟩)
 have hT:=Lib.hid (show offerM s i=match s.qs[secOf s i]? with
  |some (o::l)=>{s with seats:=s.seats.set i (sxHold (seatAt s i) o (untilM s s.ve.ttl)).1,qs:=s.qs.set (secOf s i) l}
  |_=>s from rfl)
 obtain⟨A1,d1,hc1,hqt⟩:=h.qq (secOf s i) s.qs[secOf s i] (List.getElem?_eq_getElem hq)
 rw[List.getElem?_eq_getElem hq] at hT
 have HQT:=Lib.hid hqt
 have hsx:(placeV s.ve i).1.sec=((secOf s i:Nat):Int):=by unfold secOf;omega
 generalize hk:secOf s i=k at*
 generalize offerM s i=M at hT⊢
 have H:=Lib.hid h
 clear hqt
 have u0:=h.box.cell 0 (.int .i64 s.ve.shards) rfl
 have u1:=h.box.cell 1 (.int .i64 s.ve.ttl) rfl
 have u2:=h.box.cell 2 (.int .i64 s.ve.session) rfl
 have u3:=h.box.cell 3 (.slice V s.ve.secs.length vc) rfl
 have zg:=h.box.lt
 clear h
 go_enter Tryz.func146,Tryz.ntmps146
 go_wp2_with fail
 refine(C1.out _ (Below.refl _ _)).mono ?_
 rintro e w1 ⟨rfl,hb1⟩
 rw[hsx]
 clear u0 u1 u2 u3
 generalize(placeV s.ve i).1.row=pr
 generalize(placeV s.ve i).1.seat=ps
 generalize(placeV s.ve i).2=pe
 go_upto_region 1 with fail
 refine at_world (fun X=>Below W.heap.size W X∧BoxN X w1.heap.size 157 #[.int .i64 (k:Int),.int .i64 pr,.int .i64 ps]) ⟨bal hb1,BoxN.new _ _ _⟩ fun w2 ⟨hb2,b2⟩=> ?_
 have HB2:=Lib.hid hb2
 have P2:=Lib.hid b2
 have H2:=Lib.hid (H.out.up hb2)
 have HQ2:=Lib.hid (HQT.out.up hb2)
 have hpw:W.heap.size≤w1.heap.size:=hb1.size
 clear hb1 hb2 b2 H HQT C1 zg
 generalize w1.heap.size=q at P2 hpw
 have c6:=H2.out.box.cell 6 (.slice (some ⟨b,0,none⟩) s.qs.length s.qs.length) rfl
 have p0:=P2.out.cell 0 (.int .i64 (k:Int)) rfl
 have e0:=H2.out.qb.cell k (.slice A1 s.qs[k].length d1) (by rw[List.getElem?_toArray];exact hc1)
 have zg:=H2.out.box.lt
 have zb:=H2.out.qb.lt
 have zq:=P2.out.lt
 have hk0:(0:Int)≤(k:Int):=by omega
 have hk1:(k:Int)<(s.qs.length:Int):=by omega
 generalize hl:s.qs[k]=l at e0 HQ2 hT hc1
 have HL:=Lib.hid hl
 clear hl
 cases l with
 |nil=>
  obtain rfl:M=s:=hT.out
  clear hT
  go_quiet (fail)
  go_wp2_with fail
  refine bodyPost_end (results_none rfl _ _ _) rfl ?_
  exact⟨rfl,⟨cs,(H2.out.up (bdN (Below.refl _ _) _))⟩,(Only3.of g a b HB2.out).trans (Only3.of g a b (bdN (Below.refl _ _) _))⟩
 |cons o l=>
  have hlen:(o::l).length=l.length+1:=rfl
  obtain⟨bb,off,rfl,hbb,ho0,hou⟩:=HQ2.out.1.atU (k:=0) (by simp)
  simp only[List.getElem_cons_zero,Nat.add_zero] at ho0 hou
  obtain⟨ds,⟨rfl,hxo⟩,hd,hf⟩:=H2.out.ss.cell_ hi
  have hx:seatAt s i=s.seats[i]:=by simp[seatAt,hi]
  simp only[hx] at hT
  clear hx
  have c5:=H2.out.box.cell 5 (.slice (some ⟨a,0,none⟩) s.seats.length ac) rfl
  have c1:=H2.out.box.cell 1 (.int .i64 s.ve.ttl) rfl
  have d0:=hd 0 _ rfl
  have d1':=hd 1 _ rfl
  have d2:=hd 2 _ rfl
  have d3:=hd 3 _ rfl
  have d4:=hd 4 _ rfl
  simp only[sxR,Nat.add_zero] at d0 d1' d2 d3 d4
  have HF:=Lib.hid hf
  clear hd hf
  have za:=H2.out.aB.2
  have C2:=Lib.hid (fun X (hb:Below w2.heap.size w2 X)=>until_any (H2.out.up hb) s.ve.ttl H2.out.bv.2.1)
  have hub:Bd (untilM s s.ve.ttl):=addT_bd _ _ H2.out.bn H2.out.bv.2.1
  have C3:=Lib.hid (fun X=>sxHold_any s.seats[i] o (untilM s s.ve.ttl) X)
  have HR:=Lib.hid (sxHold_ok (owner:=o) (d:=untilM s s.ve.ttl) hxo hou hub)
  clear hub hxo hou
  generalize s.seats[i]=x at*
  generalize untilM s s.ve.ttl=D at*
  generalize hr:sxHold x o D=R at C3 HR hT
  clear hr
  obtain⟨⟨r0,r1,r2,r3,r4⟩,re⟩:=R
  unfold sxV at C3
  simp only at C3 hT
  have hi0:(0:Int)≤(i:Int):=by omega
  have hi1:(i:Int)<(s.seats.length:Int):=by omega
  have hl0:(0:Int)<((o::l).length:Int):=by simp
  have hl1:decide ((0:Int)<((o::l).length:Int))=true:=by simp
  go_quiet (fail)
  go_upto_region 3 with fail
  refine at_world (fun X=>Below w2.heap.size w2 X) (bdN (Below.refl _ _) _) fun w3 hb3=> ?_
  have H3:=Lib.hid (H2.out.up hb3)
  have P3:=Lib.hid (P2.out.later hb3)
  have HQ3:=Lib.hid (HQ2.out.up hb3)
  have HB3:=Lib.hid (bstep HB2.out hb3)
  have hb3':=Lib.hid hb3
  have zq:q<w3.heap.size:=P3.out.lt
  have g5:=gro_cell (H3.out.box.cell 5 (.slice (some ⟨a,0,none⟩) s.seats.length ac) rfl)
  have g1:=gro_cell (H3.out.box.cell 1 (.int .i64 s.ve.ttl) rfl)
  have o0:=gro_cell (cell_later hb3 ho0)
  have s0:=gro_cell (cell_later hb3 d0)
  have s1:=gro_cell (cell_later hb3 d1')
  have s2:=gro_cell (cell_later hb3 d2)
  have s3:=gro_cell (cell_later hb3 d3)
  have s4:=gro_cell (cell_later hb3 d4)
  clear hb3 d0 d1' d2 d3 d4 ho0 c5 c1 c6 p0 e0 zg zb za hbb
  refine wp_region_gro_late 30 28 (by kernel_rfl) (by kernel_rfl) (fun _ _ _ _ _ h=>h) ?_
  simp only[List.take_succ_cons,List.take_zero,List.drop_succ_cons,List.drop_zero]
  repeat(go_big_quiet_step (first|(go_at_call 126;exact Calls.gro_of (C2.out _ (hb3'.out.trans ((gro_below _ _).mono hb3'.out.size))))|(go_at_call 128;exact Calls.gro_of (C3.out _))|fail))
  refine wpQuiet_nil ?_
  rintro _ ⟨p,rfl⟩
  have hg:=gro_below w3 p
  have H4:=Lib.hid (H3.out.up hg)
  have P4:=Lib.hid (P3.out.later hg)
  have HQ4:=Lib.hid (HQ3.out.up hg)
  have HB4:=Lib.hid (bstep HB3.out hg)
  clear g5 g1 o0 s0 s1 s2 s3 s4 hg
  generalize gro w3 p=w4 at H4 P4 HQ4 HB4⊢
  obtain⟨ds',⟨rfl,_⟩,hd,hf⟩:=H4.out.ss.cell_ hi
  have d0:=hd 0 _ rfl
  have d1':=hd 1 _ rfl
  have d2:=hd 2 _ rfl
  have d3:=hd 3 _ rfl
  have d4:=hd 4 _ rfl
  simp only[sxR,Nat.add_zero] at d0 d1' d2 d3 d4
  have f0:=hf (i*5)
  have f1:=hf (i*5+1)
  have f2:=hf (i*5+2)
  have f3:=hf (i*5+3)
  have f4:=hf (i*5+4)
  have za:=H4.out.aB.2
  obtain⟨hs1,hs2⟩:=H4.out.set hi HR.out
  simp only[putAt,sxCells] at hs1 hs2
  have hq5:=HQ4.out.kept hs2 (Tag.of_own H4.out.ss) (by decide)
  have hp5:=P4.out.kept hs2 (fun e=>(Tag.of_box P4.out).ne (Tag.of_own H4.out.ss) (by decide) (by injection e))
  have ho5:=(Only3.of g a b HB4.out).trans (Only3.grown (g:=g) (a:=a) (b:=b) hs2 (.inr (.inl rfl)))
  have hall:=And.intro hs1 (And.intro hp5 (And.intro hq5 ho5))
  clear hd hf hs1 hs2 hq5 hp5 ho5
  go_upto_region 4 with fail
  refine at_world (fun X=>Off w0 X g a ac b V vc cs (setM s i ⟨r0,r1,r2,r3,r4⟩) op seat∧BoxN X q 157 #[.int .i64 (k:Int),.int .i64 pr,.int .i64 ps]∧QuT X (.slice (some ⟨bb,off,none⟩) (o::l).length d1) (o::l)∧Only3 g a b W X) hall fun w5 h5=> ?_
  clear hall d0 d1' d2 d3 d4 f0 f1 f2 f3 f4 za
  have H5:=Lib.hid h5.1
  have P5:=Lib.hid h5.2.1
  have HQ5:=Lib.hid h5.2.2.1
  have HO5:=Lib.hid h5.2.2.2
  clear h5
  have hcap':l.length+1≤d1:=by
   obtain⟨_,_,heq,hcap,hcm,_⟩:=HQ5.out.1
   injection heq with e1 e2 e3
   subst e3
   exact hcap
  have hd63:d1≤9223372036854775807:=by
   obtain⟨_,_,heq,hcap,hcm,_⟩:=HQ5.out.1
   injection heq with e1 e2 e3
   subst e3
   exact hcm
  have hQN:QuT w5 (.slice (if d1=1 then some ⟨bb,off,none⟩ else some ⟨bb,off+1,none⟩) l.length (d1-1)) l:=by
   by_cases h1:d1=1
   ·subst h1
    have hl0:l=[]:=List.eq_nil_of_length_eq_zero (by omega)
    subst hl0
    exact⟨⟨_,_,rfl,by simp,by simp,.inl ⟨rfl,rfl⟩⟩,fun h=>absurd rfl h⟩
   ·rw[if_neg h1]
    exact HQ5.out.tail
  obtain⟨hs1,hs2⟩:=H5.out.setQ (k:=k) hQN
  have HE:=Lib.hid (And.intro hs1 hs2)
  have c6:=H5.out.box.cell 6 (.slice (some ⟨b,0,none⟩) s.qs.length s.qs.length) rfl
  have p0:=P5.out.cell 0 (.int .i64 (k:Int)) rfl
  have e0:=H5.out.qb.cell k (.slice (some ⟨bb,off,none⟩) (o::l).length d1) (by rw[List.getElem?_toArray];exact hc1)
  have f0:=H5.out.qb.frozen k
  have zg:=H5.out.box.lt
  have zb:=H5.out.qb.lt
  have zq:=P5.out.lt
  have hb1:(1:Int)≤((l.length:Int)+1):=by omega
  have hb2:((l.length:Int)+1)≤(d1:Int):=by omega
  clear hs1 hs2 hQN
  have hM:M={(setM s i ⟨r0,r1,r2,r3,r4⟩) with qs:=s.qs.set k l}:=hT.out
  have HE2:=Lib.hid (show(∃cs',Off w0 (w5.setCell ⟨b,k,none⟩ (.slice (if d1=1 then some ⟨bb,off,none⟩ else some ⟨bb,off+1,none⟩) l.length (d1-1))).drew g a ac b V vc cs' M op seat)∧Only3 g a b W (w5.setCell ⟨b,k,none⟩ (.slice (if d1=1 then some ⟨bb,off,none⟩ else some ⟨bb,off+1,none⟩) l.length (d1-1))).drew from
   ⟨⟨_,by rw[hM];exact HE.out.1.up (bdd (Below.refl _ _))⟩,(HO5.out.trans (Only3.grown (g:=g) (a:=a) (b:=b) HE.out.2 (.inr (.inr rfl)))).trans (Only3.of g a b (bdd (Below.refl _ _)))⟩)
  clear hM HE
  by_cases h1:d1=1
  ·subst h1
   obtain rfl:l=[]:=List.eq_nil_of_length_eq_zero (by omega)
   rw[if_pos rfl] at HE2
   simp only[List.length_nil,Nat.sub_self] at HE2
   go_region
   refine bodyPost_end (results_none rfl _ _ _) rfl ?_
   exact⟨rfl,HE2.out⟩
  ·rw[if_neg h1] at HE2
   go_region
   refine bodyPost_end (results_none rfl _ _ _) rfl ?_
   exact⟨rfl,HE2.out⟩
end Go.Proofs.YtlckmjiioohcmaaGreatDoor
namespace Go.Proofs.YtlckmjiioohcmaaGreatDoor
open Go.RowKit
theorem BoxN.only {g a b q:Nat} {W W':World} {t:TypeId} {cs:Array Value} (h:BoxN W q t cs) (ho:Only3 g a b W W') (hg:q≠g) (ha:q≠a) (hb:q≠b):BoxN W' q t cs:=(ho.block q h.lt hg ha hb).trans h
theorem only_bstep {g a b:Nat} {W X Y:World} (h:Below W.heap.size W X) (h':Only3 g a b X Y):Only3 g a b W Y:=(Only3.of g a b h).trans h'
theorem BoxN.set9 {W:World} {B:Nat} {t:TypeId} {a0 a1 a2 a3 a4 a5 a6 a7 a8:Value} (h:BoxN W B t #[a0,a1,a2,a3,a4,a5,a6,a7,a8]) (b0 b1 b2 b3 b4 b5 b6 b7 b8:Value):BoxN (((((((((W.setCell ⟨B,0,none⟩ b0).setCell ⟨B,1,none⟩ b1).setCell ⟨B,2,none⟩ b2).setCell ⟨B,3,none⟩ b3).setCell ⟨B,4,none⟩ b4).setCell ⟨B,5,none⟩ b5).setCell ⟨B,6,none⟩ b6).setCell ⟨B,7,none⟩ b7).setCell ⟨B,8,none⟩ b8) B t #[b0,b1,b2,b3,b4,b5,b6,b7,b8]:=by
 have h0:BoxN (W.setCell ⟨B,0,none⟩ b0) B t #[b0,a1,a2,a3,a4,a5,a6,a7,a8]:=h.set 0 b0
 have h1:BoxN ((W.setCell ⟨B,0,none⟩ b0).setCell ⟨B,1,none⟩ b1) B t #[b0,b1,a2,a3,a4,a5,a6,a7,a8]:=h0.set 1 b1
 have h2:BoxN (((W.setCell ⟨B,0,none⟩ b0).setCell ⟨B,1,none⟩ b1).setCell ⟨B,2,none⟩ b2) B t #[b0,b1,b2,a3,a4,a5,a6,a7,a8]:=h1.set 2 b2
 have h3:BoxN ((((W.setCell ⟨B,0,none⟩ b0).setCell ⟨B,1,none⟩ b1).setCell ⟨B,2,none⟩ b2).setCell ⟨B,3,none⟩ b3) B t #[b0,b1,b2,b3,a4,a5,a6,a7,a8]:=h2.set 3 b3
 have h4:BoxN (((((W.setCell ⟨B,0,none⟩ b0).setCell ⟨B,1,none⟩ b1).setCell ⟨B,2,none⟩ b2).setCell ⟨B,3,none⟩ b3).setCell ⟨B,4,none⟩ b4) B t #[b0,b1,b2,b3,b4,a5,a6,a7,a8]:=h3.set 4 b4
 have h5:BoxN ((((((W.setCell ⟨B,0,none⟩ b0).setCell ⟨B,1,none⟩ b1).setCell ⟨B,2,none⟩ b2).setCell ⟨B,3,none⟩ b3).setCell ⟨B,4,none⟩ b4).setCell ⟨B,5,none⟩ b5) B t #[b0,b1,b2,b3,b4,b5,a6,a7,a8]:=h4.set 5 b5
 have h6:BoxN (((((((W.setCell ⟨B,0,none⟩ b0).setCell ⟨B,1,none⟩ b1).setCell ⟨B,2,none⟩ b2).setCell ⟨B,3,none⟩ b3).setCell ⟨B,4,none⟩ b4).setCell ⟨B,5,none⟩ b5).setCell ⟨B,6,none⟩ b6) B t #[b0,b1,b2,b3,b4,b5,b6,a7,a8]:=h5.set 6 b6
 have h7:BoxN ((((((((W.setCell ⟨B,0,none⟩ b0).setCell ⟨B,1,none⟩ b1).setCell ⟨B,2,none⟩ b2).setCell ⟨B,3,none⟩ b3).setCell ⟨B,4,none⟩ b4).setCell ⟨B,5,none⟩ b5).setCell ⟨B,6,none⟩ b6).setCell ⟨B,7,none⟩ b7) B t #[b0,b1,b2,b3,b4,b5,b6,b7,a8]:=h6.set 7 b7
 have h8:BoxN (((((((((W.setCell ⟨B,0,none⟩ b0).setCell ⟨B,1,none⟩ b1).setCell ⟨B,2,none⟩ b2).setCell ⟨B,3,none⟩ b3).setCell ⟨B,4,none⟩ b4).setCell ⟨B,5,none⟩ b5).setCell ⟨B,6,none⟩ b6).setCell ⟨B,7,none⟩ b7).setCell ⟨B,8,none⟩ b8) B t #[b0,b1,b2,b3,b4,b5,b6,b7,b8]:=h7.set 8 b8
 exact h8
theorem Off.bnd {w0 W:World} {g a ac b:Nat} {V:Option Addr} {vc:Nat} {cs:List Value} {s:Md} {op:MOp} {seat:Int} (h:Off w0 W g a ac b V vc cs s op seat):g<W.heap.size∧a<W.heap.size∧b<W.heap.size:=⟨h.box.lt,h.aB.2,h.qb.lt⟩
theorem Off.new {w0 W W':World} {g a ac b q:Nat} {V:Option Addr} {vc:Nat} {cs:List Value} {s:Md} {op:MOp} {seat:Int} {t:TypeId} (h:Off w0 W g a ac b V vc cs s op seat) (hg:W.grownBy W' (some q)) (ht:Tag W q t) (hq:w0.heap.size≤q) (h1:t≠126) (h2:t≠81) (h3:t≠85) (h4:t≠41):
 Off w0 W' g a ac b V vc cs s op seat:=
 ⟨h.bw.grown hg h.bw.size (fun j hj=>by injection hj with hj;omega),h.gB,h.bB,h.box.kept hg (fun e=>(Tag.of_box h.box).ne ht (Ne.symm h1) (by injection e)),h.vs,
  h.ss.kept hg (fun x hx e=>(Tag.of_own h.ss).ne ht (Ne.symm h2) (by injection e with e;injection hx with hx;rw[e];exact hx)) (fun cs y h=>sxR_flat _ _ _ _ h),
  h.qb.kept hg (fun e=>(Tag.of_box h.qb).ne ht (Ne.symm h3) (by injection e)),h.ql,fun k l hk=>by
   obtain⟨A,c,h5,h6⟩:=h.qq k l hk
   exact⟨A,c,h5,h6.kept hg ht h4⟩,h.bv,h.bn,h.bo,h.bs⟩
theorem Only3.new {g a b q:Nat} {W X Y:World} (h:Only3 g a b W X) (hg:X.grownBy Y (some q)) (hq:W.heap.size≤q):Only3 g a b W Y:=
 ⟨hg.os.trans h.os,hg.tape.trans h.tape,hg.output.trans h.output,Nat.le_trans h.size hg.size,fun i hi h1 h2 h3=>(hg.block i (Nat.lt_of_lt_of_le hi h.size) (fun e=>by injection e with e;omega)).trans (h.block i hi h1 h2 h3)⟩
def freedM (s:Md) (k:Nat) (x:Sx) (e:Int):Md×MRp:=(if e=0 then offerM (setM s k x) k else s,{noRp with err:=e})
def soldM (s:Md) (k:Nat) (x:Sx) (e:Int):Md×MRp:=if e=0 then(setM s k x,{noRp with tk:=(sxTicket x (k:Int)).1}) else(s,{noRp with err:=e})
def RpV (r:MRp):Value:=.agg #[.int .i64 r.err,.int .i64 r.seat,.int .i64 r.n,.int .i64 r.deadline,.int .u32 r.tk.seat,.int .u32 r.tk.owner,.int .u64 r.tk.serial,.int .u64 r.tk.epoch,.int .i64 r.place]
def OpPost (w0 W:World) (g a ac b:Nat) (V:Option Addr) (vc:Nat) (op:MOp) (seat:Int) (M:Md×MRp) (e:Ending) (w':World):Prop:=
 e=.returned (RpV M.2)∧(∃cs',Off w0 w' g a ac b V vc cs' M.1 op seat)∧Only3 g a b W w'
set_option maxHeartbeats 4000000 in
set_option maxRecDepth 20000 in
theorem freed_any {w0 W:World} {g a ac b:Nat} {V:Option Addr} {vc:Nat} {cs:List Value} {s:Md} {op:MOp} {k:Nat} (h:Off w0 W g a ac b V vc cs s op (k:Int)) (hk:k<s.seats.length) (hp:0≤(placeV s.ve k).1.sec) (hq:secOf s k<s.qs.length) (x:Sx) (hx:SxOk x) (e:Int):
 Calls Tryz.prog 130 #[.pointer (some ⟨g,0,none⟩),sxV x,.int .i64 e] W (OpPost w0 W g a ac b V vc op (k:Int) (freedM s k x e)):=by
 have hwb:=h.bw.size
 obtain⟨bg,ba',bb⟩:=h.bnd
 have h2:=(h.up (ba W (.cells #[.int .i64 x.state,.int .u32 x.owner,.int .i64 x.till,.int .u64 x.serial,.int .u64 x.epoch] 81))).up (ba _ (.cells #[.int .i64 0,.int .i64 0,.int .i64 0,.int .i64 0,.int .u32 0,.int .u32 0,.int .u64 0,.int .u64 0,.int .i64 0] 49))
 have C1:=Lib.hid (change_any h2 hk x hx e)
 have H:=Lib.hid h
 have hB2:=Lib.hid (bal (o:=.cells #[.int .i64 0,.int .i64 0,.int .i64 0,.int .i64 0,.int .u32 0,.int .u32 0,.int .u64 0,.int .u64 0,.int .i64 0] 49) (ba W (.cells #[.int .i64 x.state,.int .u32 x.owner,.int .i64 x.till,.int .u64 x.serial,.int .u64 x.epoch] 81)))
 have K0:=Lib.hid ((BoxN.new W 81 #[.int .i64 x.state,.int .u32 x.owner,.int .i64 x.till,.int .u64 x.serial,.int .u64 x.epoch]).alloc (.cells #[.int .i64 0,.int .i64 0,.int .i64 0,.int .i64 0,.int .u32 0,.int .u32 0,.int .u64 0,.int .u64 0,.int .i64 0] 49))
 have J0:=Lib.hid (BoxN.new (W.alloc (.cells #[.int .i64 x.state,.int .u32 x.owner,.int .i64 x.till,.int .u64 x.serial,.int .u64 x.epoch] 81)) 49 #[.int .i64 0,.int .i64 0,.int .i64 0,.int .i64 0,.int .u32 0,.int .u32 0,.int .u64 0,.int .u64 0,.int .i64 0])
 rw[World.size_alloc] at J0
 unfold sxV at C1⊢
 clear h h2
 go_enter Tryz.func130,Tryz.ntmps130
 go_wp2_with fail
 refine C1.out.mono ?_
 rintro e1 w1 ⟨rfl,h1,ho1⟩
 have H1:=Lib.hid h1
 have HO1:=Lib.hid (only_bstep hB2.out ho1)
 have K1:=Lib.hid (K0.out.only ho1 (by omega) (by omega) (by omega))
 have J1:=Lib.hid (J0.out.only ho1 (by omega) (by omega) (by omega))
 clear h1 ho1 K0 J0 hB2 C1
 by_cases he:e=0
 ·subst he
  have hM:freedM s k x 0=(offerM (setM s k x) k,⟨0,0,0,0,noTk,0⟩):=by simp[freedM,noRp]
  have HM:=Lib.hid hM
  have hc:changeM s k x 0=setM s k x:=by simp[changeM]
  rw[hc] at H1
  have C2:=Lib.hid (offer_any H1.out (i:=k) (by simpa[setM] using hk) hp hq)
  have c19:=H1.out.box.cell 19 (.int .i64 (k:Int)) rfl
  have zg:=H1.out.box.lt
  clear hM hc
  go_wp2_with fail
  refine C2.out.mono ?_
  rintro e2 w2 ⟨rfl,⟨cs2,h2⟩,ho2⟩
  have H2:=Lib.hid h2
  have HO2:=Lib.hid (HO1.out.trans ho2)
  have J2:=Lib.hid (J1.out.only ho2 (by omega) (by omega) (by omega))
  clear h2 ho2 c19 zg
  obtain⟨dc0,df0,dc1,df1,dc2,df2,dc3,df3,dc4,df4,dc5,df5,dc6,df6,dc7,df7,dc8,df8,dz⟩:=J2.out.x9
  go_wp2_with fail
  have b':=J2.out.set9 (.int .i64 0) (.int .i64 0) (.int .i64 0) (.int .i64 0) (.int .u32 0) (.int .u32 0) (.int .u64 0) (.int .u64 0) (.int .i64 0)
  have hg:=grownBy_putAt [.int .i64 0,.int .i64 0,.int .i64 0,.int .i64 0,.int .u32 0,.int .u32 0,.int .u64 0,.int .u64 0,.int .i64 0] w2 (W.heap.size+1) 0
  simp only[putAt,Nat.zero_add,Nat.reduceAdd] at hg
  have hall:=And.intro b' (And.intro (H2.out.new hg (Tag.of_box J2.out) (by omega) (by decide) (by decide) (by decide) (by decide)) (HO2.out.new hg (by omega)))
  clear b' hg dc0 dc1 dc2 dc3 dc4 dc5 dc6 dc7 dc8 df0 df1 df2 df3 df4 df5 df6 df7 df8 dz
  refine at_world (fun X=>BoxN X (W.heap.size+1) 49 #[.int .i64 0,.int .i64 0,.int .i64 0,.int .i64 0,.int .u32 0,.int .u32 0,.int .u64 0,.int .u64 0,.int .i64 0]∧(∃cs',Off w0 X g a ac b V vc cs' (offerM (setM s k x) k) op (k:Int))∧Only3 g a b W X) ⟨hall.1,⟨_,hall.2.1⟩,hall.2.2⟩ fun Y ⟨b',hO,hX⟩=> ?_
  clear hall
  have gg:=b'.x9
  exact bodyPost_ret (v:=.agg #[.int .i64 0,.int .i64 0,.int .i64 0,.int .i64 0,.int .u32 0,.int .u32 0,.int .u64 0,.int .u64 0,.int .i64 0]) (by simp[results,Tryz.results130,go_sem,gg]) rfl (show OpPost w0 W g a ac b V vc op (k:Int) (freedM s k x 0) _ _ from by rw[HM.out];exact⟨rfl,hO,hX⟩)
 ·have hM:freedM s k x e=(s,⟨e,0,0,0,noTk,0⟩):=by simp[freedM,he,noRp]
  have HM:=Lib.hid hM
  have hc:changeM s k x e=s:=by simp[changeM,he]
  rw[hc] at H1
  have t:(e==0)=false:=by simpa using he
  clear hM hc he
  obtain⟨dc0,df0,dc1,df1,dc2,df2,dc3,df3,dc4,df4,dc5,df5,dc6,df6,dc7,df7,dc8,df8,dz⟩:=J1.out.x9
  go_wp2_with fail
  have b':=J1.out.set9 (.int .i64 e) (.int .i64 0) (.int .i64 0) (.int .i64 0) (.int .u32 0) (.int .u32 0) (.int .u64 0) (.int .u64 0) (.int .i64 0)
  have hg:=grownBy_putAt [.int .i64 e,.int .i64 0,.int .i64 0,.int .i64 0,.int .u32 0,.int .u32 0,.int .u64 0,.int .u64 0,.int .i64 0] w1 (W.heap.size+1) 0
  simp only[putAt,Nat.zero_add,Nat.reduceAdd] at hg
  have hall:=And.intro b' (And.intro (H1.out.new hg (Tag.of_box J1.out) (by omega) (by decide) (by decide) (by decide) (by decide)) (HO1.out.new hg (by omega)))
  clear b' hg dc0 dc1 dc2 dc3 dc4 dc5 dc6 dc7 dc8 df0 df1 df2 df3 df4 df5 df6 df7 df8 dz
  refine at_world (fun X=>BoxN X (W.heap.size+1) 49 #[.int .i64 e,.int .i64 0,.int .i64 0,.int .i64 0,.int .u32 0,.int .u32 0,.int .u64 0,.int .u64 0,.int .i64 0]∧(∃cs',Off w0 X g a ac b V vc cs' s op (k:Int))∧Only3 g a b W X) ⟨hall.1,⟨_,hall.2.1⟩,hall.2.2⟩ fun Y ⟨b',hO,hX⟩=> ?_
  clear hall
  have gg:=b'.x9
  exact bodyPost_ret (v:=.agg #[.int .i64 e,.int .i64 0,.int .i64 0,.int .i64 0,.int .u32 0,.int .u32 0,.int .u64 0,.int .u64 0,.int .i64 0]) (by simp[results,Tryz.results130,go_sem,gg]) rfl (show OpPost w0 W g a ac b V vc op (k:Int) (freedM s k x e) _ _ from by rw[HM.out];exact⟨rfl,hO,hX⟩)
set_option maxHeartbeats 4000000 in
set_option maxRecDepth 20000 in
theorem sold_any {w0 W:World} {g a ac b:Nat} {V:Option Addr} {vc:Nat} {cs:List Value} {s:Md} {op:MOp} {k:Nat} (h:Off w0 W g a ac b V vc cs s op (k:Int)) (hk:k<s.seats.length) (hk32:k≤4294967295) (x:Sx) (hx:SxOk x) (e:Int):
 Calls Tryz.prog 132 #[.pointer (some ⟨g,0,none⟩),sxV x,.int .i64 e] W (OpPost w0 W g a ac b V vc op (k:Int) (soldM s k x e)):=by
 have hwb:=h.bw.size
 obtain⟨bg,ba',bb⟩:=h.bnd
 have h2:=(h.up (ba W (.cells #[.int .i64 x.state,.int .u32 x.owner,.int .i64 x.till,.int .u64 x.serial,.int .u64 x.epoch] 81))).up (ba _ (.cells #[.int .i64 0,.int .i64 0,.int .i64 0,.int .i64 0,.int .u32 0,.int .u32 0,.int .u64 0,.int .u64 0,.int .i64 0] 49))
 have C1:=Lib.hid (change_any h2 hk x hx e)
 have H:=Lib.hid h
 have hB2:=Lib.hid (bal (o:=.cells #[.int .i64 0,.int .i64 0,.int .i64 0,.int .i64 0,.int .u32 0,.int .u32 0,.int .u64 0,.int .u64 0,.int .i64 0] 49) (ba W (.cells #[.int .i64 x.state,.int .u32 x.owner,.int .i64 x.till,.int .u64 x.serial,.int .u64 x.epoch] 81)))
 have K0:=Lib.hid ((BoxN.new W 81 #[.int .i64 x.state,.int .u32 x.owner,.int .i64 x.till,.int .u64 x.serial,.int .u64 x.epoch]).alloc (.cells #[.int .i64 0,.int .i64 0,.int .i64 0,.int .i64 0,.int .u32 0,.int .u32 0,.int .u64 0,.int .u64 0,.int .i64 0] 49))
 have J0:=Lib.hid (BoxN.new (W.alloc (.cells #[.int .i64 x.state,.int .u32 x.owner,.int .i64 x.till,.int .u64 x.serial,.int .u64 x.epoch] 81)) 49 #[.int .i64 0,.int .i64 0,.int .i64 0,.int .i64 0,.int .u32 0,.int .u32 0,.int .u64 0,.int .u64 0,.int .i64 0])
 rw[World.size_alloc] at J0
 unfold sxV at C1⊢
 clear h h2
 go_enter Tryz.func132,Tryz.ntmps132
 go_wp2_with fail
 refine C1.out.mono ?_
 rintro e1 w1 ⟨rfl,h1,ho1⟩
 have H1:=Lib.hid h1
 have HO1:=Lib.hid (only_bstep hB2.out ho1)
 have K1:=Lib.hid (K0.out.only ho1 (by omega) (by omega) (by omega))
 have J1:=Lib.hid (J0.out.only ho1 (by omega) (by omega) (by omega))
 clear h1 ho1 K0 J0 hB2 C1
 by_cases he:e=0
 ·subst he
  have hM:soldM s k x 0=(setM s k x,⟨0,0,0,0,(sxTicket x (k:Int)).1,0⟩):=by simp[soldM,noRp]
  have C2:=Lib.hid (sxTicket_any x (k:Int))
  have hc:changeM s k x 0=setM s k x:=by simp[changeM]
  rw[hc] at H1
  generalize sxTicket x (k:Int)=T at C2 hM
  obtain⟨⟨t0,t1,t2,t3⟩,te⟩:=T
  have HM:=Lib.hid hM
  unfold sxV tkV at C2
  simp only at C2
  have c19:=H1.out.box.cell 19 (.int .i64 (k:Int)) rfl
  have hwr:IntKind.u32.wrap (k:Int)=(k:Int):=IntWalk.u32_in _ (by omega)
  obtain⟨xc0,-,xc1,-,xc2,-,xc3,-,xc4,-,xz⟩:=K1.out.x5
  have zg:=H1.out.box.lt
  clear hM hc
  have hby:Below w1.heap.size w1 w1.drew:=bdd (Below.refl _ _)
  have zq:=K1.out.lt
  have zq0:=K1.out.lt
  have zg0:=H1.out.box.lt
  go_upto_region 4 with fail
  go_region_held3 (fun X=>X.cell? ⟨W.heap.size,0,none⟩=some (.int .i64 x.state)∧X.cell? ⟨W.heap.size,1,none⟩=some (.int .u32 x.owner)∧X.cell? ⟨W.heap.size,2,none⟩=some (.int .i64 x.till)∧X.cell? ⟨W.heap.size,3,none⟩=some (.int .u64 x.serial)∧X.cell? ⟨W.heap.size,4,none⟩=some (.int .u64 x.epoch)∧X.cell? ⟨g,19,none⟩=some (.int .i64 (k:Int)))
   (exact⟨by first|with_reducible assumption|go_simp,by first|with_reducible assumption|go_simp,by first|with_reducible assumption|go_simp,by first|with_reducible assumption|go_simp,by first|with_reducible assumption|go_simp,by first|with_reducible assumption|go_simp⟩)
   (first
    |(go_at_call 179;refine(C2.out _).mono ?_;rintro e2 w2 ⟨rfl,hb2⟩;have xc0:=cell_later hb2 (show World.cell? _ ⟨W.heap.size,0,none⟩=some (.int .i64 x.state) from by first|exact xc0|go_simp);have xc1:=cell_later hb2 (show World.cell? _ ⟨W.heap.size,1,none⟩=some (.int .u32 x.owner) from by first|exact xc1|go_simp);have xc2:=cell_later hb2 (show World.cell? _ ⟨W.heap.size,2,none⟩=some (.int .i64 x.till) from by first|exact xc2|go_simp);have xc3:=cell_later hb2 (show World.cell? _ ⟨W.heap.size,3,none⟩=some (.int .u64 x.serial) from by first|exact xc3|go_simp);have xc4:=cell_later hb2 (show World.cell? _ ⟨W.heap.size,4,none⟩=some (.int .u64 x.epoch) from by first|exact xc4|go_simp);have c19:=cell_later hb2 (show World.cell? _ ⟨g,19,none⟩=some (.int .i64 (k:Int)) from by first|exact c19|go_simp);have zq:=Nat.lt_of_lt_of_le (show W.heap.size<_ from by first|exact zq|go_simp) hb2.size;have zg:=Nat.lt_of_lt_of_le (show g<_ from by first|exact zg|go_simp) hb2.size;have T:=(Cells.new w1 [.int .u32 0,.int .u32 0,.int .u64 0,.int .u64 0] 44).drew.later hb2;have tc0:w2.cell? ⟨w1.heap.size,0,none⟩=some (.int .u32 0):=T.c 0 _ rfl;have tc1:w2.cell? ⟨w1.heap.size,1,none⟩=some (.int .u32 0):=T.c 1 _ rfl;have tc2:w2.cell? ⟨w1.heap.size,2,none⟩=some (.int .u64 0):=T.c 2 _ rfl;have tc3:w2.cell? ⟨w1.heap.size,3,none⟩=some (.int .u64 0):=T.c 3 _ rfl;have tf0:w2.frozen? ⟨w1.heap.size,0,none⟩=false:=T.f 0;have tf1:w2.frozen? ⟨w1.heap.size,1,none⟩=false:=T.f 1;have tf2:w2.frozen? ⟨w1.heap.size,2,none⟩=false:=T.f 2;have tf3:w2.frozen? ⟨w1.heap.size,3,none⟩=false:=T.f 3;have tz:w1.heap.size<w2.heap.size:=T.lt;have nq:W.heap.size≠w1.heap.size:=Nat.ne_of_lt zq0;have ng:g≠w1.heap.size:=Nat.ne_of_lt zg0;clear T)
    |(go_at_call 179;refine(C2.out _).mono ?_;rintro e2 w2 ⟨rfl,hb2⟩;have xc0:=cell_later hb2 (show World.cell? _ ⟨W.heap.size,0,none⟩=some (.int .i64 x.state) from by first|exact xc0|go_simp);have xc1:=cell_later hb2 (show World.cell? _ ⟨W.heap.size,1,none⟩=some (.int .u32 x.owner) from by first|exact xc1|go_simp);have xc2:=cell_later hb2 (show World.cell? _ ⟨W.heap.size,2,none⟩=some (.int .i64 x.till) from by first|exact xc2|go_simp);have xc3:=cell_later hb2 (show World.cell? _ ⟨W.heap.size,3,none⟩=some (.int .u64 x.serial) from by first|exact xc3|go_simp);have xc4:=cell_later hb2 (show World.cell? _ ⟨W.heap.size,4,none⟩=some (.int .u64 x.epoch) from by first|exact xc4|go_simp);have c19:=cell_later hb2 (show World.cell? _ ⟨g,19,none⟩=some (.int .i64 (k:Int)) from by first|exact c19|go_simp);have zq:=Nat.lt_of_lt_of_le (show W.heap.size<_ from by first|exact zq|go_simp) hb2.size;have zg:=Nat.lt_of_lt_of_le (show g<_ from by first|exact zg|go_simp) hb2.size)
    |fail)
  ·refine at_world (fun X=>Below w1.heap.size w1 X∧BoxN X w2.heap.size 44 #[.int .u32 t0,.int .u32 t1,.int .u64 t2,.int .u64 t3]) ⟨bal (bstep (bdd (Below.refl _ _)) hb2),BoxN.new _ _ _⟩ fun X hX=> ?_
   have hb:=hX.1
   have H2:=Lib.hid (H1.out.up hb)
   have HO2:=Lib.hid (HO1.out.trans (Only3.of g a b hb))
   have J2:=Lib.hid (J1.out.later hb)
   have R2:=Lib.hid hX.2
   clear hX hb hb2 xc0 xc1 xc2 xc3 xc4 c19 zq zg
   obtain⟨dc0,df0,dc1,df1,dc2,df2,dc3,df3,dc4,df4,dc5,df5,dc6,df6,dc7,df7,dc8,df8,dz⟩:=J2.out.x9
   have rc0:=R2.out.cell 0 (.int .u32 t0) rfl
   have rc1:=R2.out.cell 1 (.int .u32 t1) rfl
   have rc2:=R2.out.cell 2 (.int .u64 t2) rfl
   have rc3:=R2.out.cell 3 (.int .u64 t3) rfl
   have rz:=R2.out.lt
   clear HO1 K1 J1 H1 H C2
   go_wp2_with fail
   have b':=J2.out.set9 (.int .i64 0) (.int .i64 0) (.int .i64 0) (.int .i64 0) (.int .u32 t0) (.int .u32 t1) (.int .u64 t2) (.int .u64 t3) (.int .i64 0)
   have hg:=grownBy_putAt [.int .i64 0,.int .i64 0,.int .i64 0,.int .i64 0,.int .u32 t0,.int .u32 t1,.int .u64 t2,.int .u64 t3,.int .i64 0] X (W.heap.size+1) 0
   simp only[putAt,Nat.zero_add,Nat.reduceAdd] at hg
   have hall:=And.intro b' (And.intro (H2.out.new hg (Tag.of_box J2.out) (by omega) (by decide) (by decide) (by decide) (by decide)) (HO2.out.new hg (by omega)))
   clear b' hg dc0 dc1 dc2 dc3 dc4 dc5 dc6 dc7 dc8 df0 df1 df2 df3 df4 df5 df6 df7 df8 dz
   refine at_world (fun X=>BoxN X (W.heap.size+1) 49 #[.int .i64 0,.int .i64 0,.int .i64 0,.int .i64 0,.int .u32 t0,.int .u32 t1,.int .u64 t2,.int .u64 t3,.int .i64 0]∧(∃cs',Off w0 X g a ac b V vc cs' (setM s k x) op (k:Int))∧Only3 g a b W X) ⟨hall.1,⟨_,hall.2.1⟩,hall.2.2⟩ fun Y ⟨b',hO,hX⟩=> ?_
   clear hall
   have gg:=b'.x9
   exact bodyPost_ret (v:=.agg #[.int .i64 0,.int .i64 0,.int .i64 0,.int .i64 0,.int .u32 t0,.int .u32 t1,.int .u64 t2,.int .u64 t3,.int .i64 0]) (by simp[results,Tryz.results132,go_sem,gg]) rfl (show OpPost w0 W g a ac b V vc op (k:Int) (soldM s k x 0) _ _ from by rw[HM.out];exact⟨rfl,hO,hX⟩)
  ·refine at_world (fun X=>Below w1.heap.size w1 X∧BoxN X w1.heap.size 44 #[.int .u32 t0,.int .u32 t1,.int .u64 t2,.int .u64 t3]) ⟨((((bstep (bdd (ba w1 _)) hb2).setCell (p:=⟨w1.heap.size,0,none⟩) (Nat.le_refl _) (.int .u32 t0)).setCell (p:=⟨w1.heap.size,1,none⟩) (Nat.le_refl _) (.int .u32 t1)).setCell (p:=⟨w1.heap.size,2,none⟩) (Nat.le_refl _) (.int .u64 t2)).setCell (p:=⟨w1.heap.size,3,none⟩) (Nat.le_refl _) (.int .u64 t3),(((BoxN.new w1 44 #[.int .u32 0,.int .u32 0,.int .u64 0,.int .u64 0]).later (bdd (Below.refl _ _))).later hb2).set4 _ _ _ _⟩ fun X hX=> ?_
   have hb:=hX.1
   have H2:=Lib.hid (H1.out.up hb)
   have HO2:=Lib.hid (HO1.out.trans (Only3.of g a b hb))
   have J2:=Lib.hid (J1.out.later hb)
   have R2:=Lib.hid hX.2
   clear hX hb hb2 xc0 xc1 xc2 xc3 xc4 c19 zq zg
   obtain⟨dc0,df0,dc1,df1,dc2,df2,dc3,df3,dc4,df4,dc5,df5,dc6,df6,dc7,df7,dc8,df8,dz⟩:=J2.out.x9
   have rc0:=R2.out.cell 0 (.int .u32 t0) rfl
   have rc1:=R2.out.cell 1 (.int .u32 t1) rfl
   have rc2:=R2.out.cell 2 (.int .u64 t2) rfl
   have rc3:=R2.out.cell 3 (.int .u64 t3) rfl
   have rz:=R2.out.lt
   clear HO1 K1 J1 H1 H C2
   go_wp2_with fail
   have b':=J2.out.set9 (.int .i64 0) (.int .i64 0) (.int .i64 0) (.int .i64 0) (.int .u32 t0) (.int .u32 t1) (.int .u64 t2) (.int .u64 t3) (.int .i64 0)
   have hg:=grownBy_putAt [.int .i64 0,.int .i64 0,.int .i64 0,.int .i64 0,.int .u32 t0,.int .u32 t1,.int .u64 t2,.int .u64 t3,.int .i64 0] X (W.heap.size+1) 0
   simp only[putAt,Nat.zero_add,Nat.reduceAdd] at hg
   have hall:=And.intro b' (And.intro (H2.out.new hg (Tag.of_box J2.out) (by omega) (by decide) (by decide) (by decide) (by decide)) (HO2.out.new hg (by omega)))
   clear b' hg dc0 dc1 dc2 dc3 dc4 dc5 dc6 dc7 dc8 df0 df1 df2 df3 df4 df5 df6 df7 df8 dz
   refine at_world (fun X=>BoxN X (W.heap.size+1) 49 #[.int .i64 0,.int .i64 0,.int .i64 0,.int .i64 0,.int .u32 t0,.int .u32 t1,.int .u64 t2,.int .u64 t3,.int .i64 0]∧(∃cs',Off w0 X g a ac b V vc cs' (setM s k x) op (k:Int))∧Only3 g a b W X) ⟨hall.1,⟨_,hall.2.1⟩,hall.2.2⟩ fun Y ⟨b',hO,hX⟩=> ?_
   clear hall
   have gg:=b'.x9
   exact bodyPost_ret (v:=.agg #[.int .i64 0,.int .i64 0,.int .i64 0,.int .i64 0,.int .u32 t0,.int .u32 t1,.int .u64 t2,.int .u64 t3,.int .i64 0]) (by simp[results,Tryz.results132,go_sem,gg]) rfl (show OpPost w0 W g a ac b V vc op (k:Int) (soldM s k x 0) _ _ from by rw[HM.out];exact⟨rfl,hO,hX⟩)
 ·have hM:soldM s k x e=(s,{noRp with err:=e}):=by simp[soldM,he]
  have HM:=Lib.hid hM
  have hc:changeM s k x e=s:=by simp[changeM,he]
  rw[hc] at H1
  have t:(e !=0)=true:=by simpa using he
  clear hM hc he
  obtain⟨dc0,df0,dc1,df1,dc2,df2,dc3,df3,dc4,df4,dc5,df5,dc6,df6,dc7,df7,dc8,df8,dz⟩:=J1.out.x9
  go_wp2_with fail
  have b':=J1.out.set9 (.int .i64 e) (.int .i64 0) (.int .i64 0) (.int .i64 0) (.int .u32 0) (.int .u32 0) (.int .u64 0) (.int .u64 0) (.int .i64 0)
  have hg:=grownBy_putAt [.int .i64 e,.int .i64 0,.int .i64 0,.int .i64 0,.int .u32 0,.int .u32 0,.int .u64 0,.int .u64 0,.int .i64 0] w1 (W.heap.size+1) 0
  simp only[putAt,Nat.zero_add,Nat.reduceAdd] at hg
  have hall:=And.intro b' (And.intro (H1.out.new hg (Tag.of_box J1.out) (by omega) (by decide) (by decide) (by decide) (by decide)) (HO1.out.new hg (by omega)))
  clear b' hg dc0 dc1 dc2 dc3 dc4 dc5 dc6 dc7 dc8 df0 df1 df2 df3 df4 df5 df6 df7 df8 dz
  refine at_world (fun X=>BoxN X (W.heap.size+1) 49 #[.int .i64 e,.int .i64 0,.int .i64 0,.int .i64 0,.int .u32 0,.int .u32 0,.int .u64 0,.int .u64 0,.int .i64 0]∧(∃cs',Off w0 X g a ac b V vc cs' s op (k:Int))∧Only3 g a b W X) ⟨hall.1,⟨_,hall.2.1⟩,hall.2.2⟩ fun Y ⟨b',hO,hX⟩=> ?_
  clear hall
  have gg:=b'.x9
  exact bodyPost_ret (v:=.agg #[.int .i64 e,.int .i64 0,.int .i64 0,.int .i64 0,.int .u32 0,.int .u32 0,.int .u64 0,.int .u64 0,.int .i64 0]) (by simp[results,Tryz.results132,go_sem,gg]) rfl (show OpPost w0 W g a ac b V vc op (k:Int) (soldM s k x e) _ _ from by rw[HM.out];exact⟨rfl,hO,hX⟩)
end Go.Proofs.YtlckmjiioohcmaaGreatDoor
namespace Go.Proofs.YtlckmjiioohcmaaGreatDoor
open Go.RowKit
theorem sxOpen_ok {x:Sx} (h:SxOk x):SxOk (sxOpen x):=⟨by simp[sxOpen,Bd],by simp[sxOpen,U32],by simp[sxOpen,Bd],h.2.2.2⟩
theorem sxIssue_ok {x:Sx} {o:Int} (h:SxOk x) (ho:U32 o):SxOk (sxIssue x o).1:=by
 unfold sxIssue
 split
 ·exact h
 ·rename_i hne
  obtain⟨_,_,_,h4,h5⟩:=h
  unfold U64 at h4
  exact⟨by simp[Bd],ho,by simp[Bd],by unfold U64;dsimp only;omega,h5⟩
theorem sxRelease_ok {x:Sx} {o:Int} (h:SxOk x):SxOk (sxRelease x o).1:=by
 unfold sxRelease
 split
 ·exact h
 ·exact sxOpen_ok h
theorem sxBuy_ok {x:Sx} {o:Int} (h:SxOk x) (ho:U32 o):SxOk (sxBuy x o).1:=by
 unfold sxBuy
 split
 ·exact h
 ·exact sxIssue_ok h ho
theorem sxTransfer_ok {x:Sx} {t:Tk} {o:Int} (h:SxOk x) (ho:U32 o):SxOk (sxTransfer x t o).1:=by
 unfold sxTransfer
 split
 ·exact h
 ·exact sxIssue_ok h ho
theorem sxRefund_ok {x:Sx} {t:Tk} (h:SxOk x):SxOk (sxRefund x t).1:=by
 unfold sxRefund
 split
 ·exact h
 ·exact sxOpen_ok h
theorem sxRevoke_ok {x:Sx} (h:SxOk x):SxOk (sxRevoke x).1:=by
 unfold sxRevoke
 split
 ·exact h
 ·split
  ·exact h
  ·rename_i hne
   obtain⟨h1,h2,h3,h4,h5⟩:=h
   unfold U64 at h5
   exact sxOpen_ok ⟨h1,h2,h3,h4,by unfold U64;dsimp only;omega⟩
def openM (s:Md):Md×MRp:=(s,{noRp with deadline:=untilM s s.ve.session})
def releaseM (s:Md) (op:MOp) (k:Nat):Md×MRp:=freedM s k (sxRelease (seatAt s k) op.owner).1 (sxRelease (seatAt s k) op.owner).2
def buyM (s:Md) (op:MOp) (k:Nat):Md×MRp:=soldM s k (sxBuy (seatAt s k) op.owner).1 (sxBuy (seatAt s k) op.owner).2
def transferM (s:Md) (op:MOp) (k:Nat):Md×MRp:=soldM s k (sxTransfer (seatAt s k) op.tk op.to).1 (sxTransfer (seatAt s k) op.tk op.to).2
def refundM (s:Md) (op:MOp) (k:Nat):Md×MRp:=freedM s k (sxRefund (seatAt s k) op.tk).1 (sxRefund (seatAt s k) op.tk).2
def revokeM (s:Md) (k:Nat):Md×MRp:=freedM s k (sxRevoke (seatAt s k)).1 (sxRevoke (seatAt s k)).2
def validateM (s:Md) (op:MOp) (k:Nat):Md×MRp:=(s,{noRp with err:=sxValid (seatAt s k) op.tk})
theorem Off.row {w0 W:World} {g a ac b:Nat} {V:Option Addr} {vc:Nat} {cs:List Value} {s:Md} {op:MOp} {seat:Int} (h:Off w0 W g a ac b V vc cs s op seat) {k:Nat} (hk:k<s.seats.length):
 W.cell? ⟨a,k*5,none⟩=some (.int .i64 (seatAt s k).state)∧W.cell? ⟨a,k*5+1,none⟩=some (.int .u32 (seatAt s k).owner)∧W.cell? ⟨a,k*5+2,none⟩=some (.int .i64 (seatAt s k).till)∧
  W.cell? ⟨a,k*5+3,none⟩=some (.int .u64 (seatAt s k).serial)∧W.cell? ⟨a,k*5+4,none⟩=some (.int .u64 (seatAt s k).epoch)∧SxOk (seatAt s k):=by
 have hx:seatAt s k=s.seats[k]:=by simp[seatAt,hk]
 rw[hx]
 obtain⟨ds,⟨rfl,hxo⟩,hd,_⟩:=h.ss.cell_ hk
 exact⟨hd 0 _ rfl,hd 1 _ rfl,hd 2 _ rfl,hd 3 _ rfl,hd 4 _ rfl,hxo⟩
set_option maxHeartbeats 4000000 in
set_option maxRecDepth 20000 in
theorem release_any {w0 W:World} {g a ac b:Nat} {V:Option Addr} {vc:Nat} {cs:List Value} {s:Md} {op:MOp} {k:Nat} (h:Off w0 W g a ac b V vc cs s op (k:Int)) (hk:k<s.seats.length) (hp:0≤(placeV s.ve k).1.sec) (hq:secOf s k<s.qs.length):
 Calls Tryz.prog 98 #[.pointer (some ⟨g,0,none⟩)] W (OpPost w0 W g a ac b V vc op (k:Int) (releaseM s op k)):=by
 have hwb:=h.bw.size
 obtain⟨bg,ba',bb⟩:=h.bnd
 obtain⟨r0,r1,r2,r3,r4,hxo⟩:=h.row hk
 have hbo:=h.bo
 have C1:=Lib.hid (sxRelease_any (seatAt s k) op.owner)
 have HM:=Lib.hid (show releaseM s op k=freedM s k (sxRelease (seatAt s k) op.owner).1 (sxRelease (seatAt s k) op.owner).2 from rfl)
 have HR:=Lib.hid (show SxOk (sxRelease (seatAt s k) op.owner).1 from sxRelease_ok hxo)
 generalize releaseM s op k=MM at HM⊢
 clear hxo
 generalize sxRelease (seatAt s k) op.owner=R at C1 HM HR
 obtain⟨⟨q0,q1,q2,q3,q4⟩,re⟩:=R
 unfold sxV at C1
 simp only at C1
 have H:=Lib.hid h
 have hk0:(0:Int)≤(k:Int):=by omega
 have hk1:(k:Int)<(s.seats.length:Int):=by omega
 clear h hbo
 go_enter Tryz.func98,Tryz.ntmps98
 go_upto_region 1 with fail
 refine at_world (fun X=>Below W.heap.size W X∧BoxN X W.heap.size 49 #[.int .i64 0,.int .i64 0,.int .i64 0,.int .i64 0,.int .u32 0,.int .u32 0,.int .u64 0,.int .u64 0,.int .i64 0]) ⟨ba _ _,BoxN.new _ _ _⟩ fun w1 hw1=> ?_
 have hb1:=hw1.1
 have H1:=Lib.hid (H.out.up hb1)
 have J1:=Lib.hid hw1.2
 have HB1:=Lib.hid hb1
 have s0:=gro_cell (cell_later hb1 r0)
 have s1:=gro_cell (cell_later hb1 r1)
 have s2:=gro_cell (cell_later hb1 r2)
 have s3:=gro_cell (cell_later hb1 r3)
 have s4:=gro_cell (cell_later hb1 r4)
 have o5:=gro_cell (H1.out.box.cell 5 (.slice (some ⟨a,0,none⟩) s.seats.length ac) rfl)
 have o19:=gro_cell (H1.out.box.cell 19 (.int .i64 (k:Int)) rfl)
 have o8:=gro_cell (H1.out.box.cell 8 (.int .u32 op.owner) rfl)
 clear hw1 hb1 r0 r1 r2 r3 r4 H
 generalize hx:seatAt s k=x at*
 clear hx
 refine wp_region_gro_seq 20 (by kernel_rfl) (by kernel_rfl) (fun _ _ _ _ _ h=>h) ?_
 simp only[List.take_succ_cons,List.take_zero,List.drop_succ_cons,List.drop_zero]
 repeat(go_big_quiet_step (first|(go_at_call 131;exact Calls.gro_of (C1.out _))|fail))
 refine wpQuiet_nil ?_
 rintro _ ⟨p,rfl⟩
 have hg:=gro_below w1 p
 have H2:=Lib.hid (H1.out.up hg)
 have J2:=Lib.hid (J1.out.later hg)
 have HO2:=Lib.hid (Only3.of g a b (bstep HB1.out hg))
 clear s0 s1 s2 s3 s4 o5 o19 o8 hg H1 J1 HB1
 generalize gro w1 p=w2 at H2 J2 HO2⊢
 have C2:=Lib.hid (freed_any H2.out hk hp hq ⟨q0,q1,q2,q3,q4⟩ HR.out re)
 simp only at HM
 rw[←HM.out] at C2
 clear HM HR
 obtain⟨M1,⟨me,ms,mn,md,⟨t0,t1,t2,t3⟩,mp⟩⟩:=MM
 unfold sxV at C2
 go_wp2_with fail
 refine C2.out.mono ?_
 rintro e3 w3 ⟨rfl,⟨cs3,h3⟩,ho3⟩
 have H3:=Lib.hid h3
 have HO3:=Lib.hid (HO2.out.trans ho3)
 have J3:=Lib.hid (J2.out.only ho3 (by omega) (by omega) (by omega))
 clear h3 ho3 C2 H2 HO2 J2 C1
 unfold RpV
 dsimp only
 obtain⟨dc0,df0,dc1,df1,dc2,df2,dc3,df3,dc4,df4,dc5,df5,dc6,df6,dc7,df7,dc8,df8,dz⟩:=J3.out.x9
 go_wp2_with fail
 have b':=J3.out.set9 (.int .i64 me) (.int .i64 ms) (.int .i64 mn) (.int .i64 md) (.int .u32 t0) (.int .u32 t1) (.int .u64 t2) (.int .u64 t3) (.int .i64 mp)
 have hg:=grownBy_putAt [.int .i64 me,.int .i64 ms,.int .i64 mn,.int .i64 md,.int .u32 t0,.int .u32 t1,.int .u64 t2,.int .u64 t3,.int .i64 mp] w3 (W.heap.size) 0
 simp only[putAt,Nat.zero_add,Nat.reduceAdd] at hg
 have hall:=And.intro b' (And.intro (H3.out.new hg (Tag.of_box J3.out) (by omega) (by decide) (by decide) (by decide) (by decide)) (HO3.out.new hg (by omega)))
 clear b' hg dc0 dc1 dc2 dc3 dc4 dc5 dc6 dc7 dc8 df0 df1 df2 df3 df4 df5 df6 df7 df8 dz
 refine at_world (fun X=>BoxN X (W.heap.size) 49 #[.int .i64 me,.int .i64 ms,.int .i64 mn,.int .i64 md,.int .u32 t0,.int .u32 t1,.int .u64 t2,.int .u64 t3,.int .i64 mp]∧(∃cs',Off w0 X g a ac b V vc cs' M1 op (k:Int))∧Only3 g a b W X) ⟨hall.1,⟨_,hall.2.1⟩,hall.2.2⟩ fun Y ⟨b',hO,hX⟩=> ?_
 clear hall
 have gg:=b'.x9
 exact bodyPost_ret (v:=.agg #[.int .i64 me,.int .i64 ms,.int .i64 mn,.int .i64 md,.int .u32 t0,.int .u32 t1,.int .u64 t2,.int .u64 t3,.int .i64 mp]) (by simp[results,Tryz.results98,go_sem,gg]) rfl (show OpPost w0 W g a ac b V vc op (k:Int) (M1,⟨me,ms,mn,md,⟨t0,t1,t2,t3⟩,mp⟩) _ _ from⟨rfl,hO,hX⟩)
set_option maxHeartbeats 4000000 in
set_option maxRecDepth 20000 in
theorem buy_any {w0 W:World} {g a ac b:Nat} {V:Option Addr} {vc:Nat} {cs:List Value} {s:Md} {op:MOp} {k:Nat} (h:Off w0 W g a ac b V vc cs s op (k:Int)) (hk:k<s.seats.length) (hk32:k≤4294967295):
 Calls Tryz.prog 99 #[.pointer (some ⟨g,0,none⟩)] W (OpPost w0 W g a ac b V vc op (k:Int) (buyM s op k)):=by
 have hwb:=h.bw.size
 obtain⟨bg,ba',bb⟩:=h.bnd
 obtain⟨r0,r1,r2,r3,r4,hxo⟩:=h.row hk
 have hbo:=h.bo
 have C1:=Lib.hid (fun w=>sxBuy_any (seatAt s k) op.owner w hxo)
 have HM:=Lib.hid (show buyM s op k=soldM s k (sxBuy (seatAt s k) op.owner).1 (sxBuy (seatAt s k) op.owner).2 from rfl)
 have HR:=Lib.hid (show SxOk (sxBuy (seatAt s k) op.owner).1 from sxBuy_ok hxo hbo.2.1)
 generalize buyM s op k=MM at HM⊢
 clear hxo
 generalize sxBuy (seatAt s k) op.owner=R at C1 HM HR
 obtain⟨⟨q0,q1,q2,q3,q4⟩,re⟩:=R
 unfold sxV at C1
 simp only at C1
 have H:=Lib.hid h
 have hk0:(0:Int)≤(k:Int):=by omega
 have hk1:(k:Int)<(s.seats.length:Int):=by omega
 clear h hbo
 go_enter Tryz.func99,Tryz.ntmps99
 go_upto_region 1 with fail
 refine at_world (fun X=>Below W.heap.size W X∧BoxN X W.heap.size 49 #[.int .i64 0,.int .i64 0,.int .i64 0,.int .i64 0,.int .u32 0,.int .u32 0,.int .u64 0,.int .u64 0,.int .i64 0]) ⟨ba _ _,BoxN.new _ _ _⟩ fun w1 hw1=> ?_
 have hb1:=hw1.1
 have H1:=Lib.hid (H.out.up hb1)
 have J1:=Lib.hid hw1.2
 have HB1:=Lib.hid hb1
 have s0:=gro_cell (cell_later hb1 r0)
 have s1:=gro_cell (cell_later hb1 r1)
 have s2:=gro_cell (cell_later hb1 r2)
 have s3:=gro_cell (cell_later hb1 r3)
 have s4:=gro_cell (cell_later hb1 r4)
 have o5:=gro_cell (H1.out.box.cell 5 (.slice (some ⟨a,0,none⟩) s.seats.length ac) rfl)
 have o19:=gro_cell (H1.out.box.cell 19 (.int .i64 (k:Int)) rfl)
 have o8:=gro_cell (H1.out.box.cell 8 (.int .u32 op.owner) rfl)
 clear hw1 hb1 r0 r1 r2 r3 r4 H
 generalize hx:seatAt s k=x at*
 clear hx
 refine wp_region_gro_seq 20 (by kernel_rfl) (by kernel_rfl) (fun _ _ _ _ _ h=>h) ?_
 simp only[List.take_succ_cons,List.take_zero,List.drop_succ_cons,List.drop_zero]
 repeat(go_big_quiet_step (first|(go_at_call 133;exact Calls.gro_of (C1.out _))|fail))
 refine wpQuiet_nil ?_
 rintro _ ⟨p,rfl⟩
 have hg:=gro_below w1 p
 have H2:=Lib.hid (H1.out.up hg)
 have J2:=Lib.hid (J1.out.later hg)
 have HO2:=Lib.hid (Only3.of g a b (bstep HB1.out hg))
 clear s0 s1 s2 s3 s4 o5 o19 o8 hg H1 J1 HB1
 generalize gro w1 p=w2 at H2 J2 HO2⊢
 have C2:=Lib.hid (sold_any H2.out hk hk32 ⟨q0,q1,q2,q3,q4⟩ HR.out re)
 simp only at HM
 rw[←HM.out] at C2
 clear HM HR
 obtain⟨M1,⟨me,ms,mn,md,⟨t0,t1,t2,t3⟩,mp⟩⟩:=MM
 unfold sxV at C2
 go_wp2_with fail
 refine C2.out.mono ?_
 rintro e3 w3 ⟨rfl,⟨cs3,h3⟩,ho3⟩
 have H3:=Lib.hid h3
 have HO3:=Lib.hid (HO2.out.trans ho3)
 have J3:=Lib.hid (J2.out.only ho3 (by omega) (by omega) (by omega))
 clear h3 ho3 C2 H2 HO2 J2 C1
 unfold RpV
 dsimp only
 obtain⟨dc0,df0,dc1,df1,dc2,df2,dc3,df3,dc4,df4,dc5,df5,dc6,df6,dc7,df7,dc8,df8,dz⟩:=J3.out.x9
 go_wp2_with fail
 have b':=J3.out.set9 (.int .i64 me) (.int .i64 ms) (.int .i64 mn) (.int .i64 md) (.int .u32 t0) (.int .u32 t1) (.int .u64 t2) (.int .u64 t3) (.int .i64 mp)
 have hg:=grownBy_putAt [.int .i64 me,.int .i64 ms,.int .i64 mn,.int .i64 md,.int .u32 t0,.int .u32 t1,.int .u64 t2,.int .u64 t3,.int .i64 mp] w3 (W.heap.size) 0
 simp only[putAt,Nat.zero_add,Nat.reduceAdd] at hg
 have hall:=And.intro b' (And.intro (H3.out.new hg (Tag.of_box J3.out) (by omega) (by decide) (by decide) (by decide) (by decide)) (HO3.out.new hg (by omega)))
 clear b' hg dc0 dc1 dc2 dc3 dc4 dc5 dc6 dc7 dc8 df0 df1 df2 df3 df4 df5 df6 df7 df8 dz
 refine at_world (fun X=>BoxN X (W.heap.size) 49 #[.int .i64 me,.int .i64 ms,.int .i64 mn,.int .i64 md,.int .u32 t0,.int .u32 t1,.int .u64 t2,.int .u64 t3,.int .i64 mp]∧(∃cs',Off w0 X g a ac b V vc cs' M1 op (k:Int))∧Only3 g a b W X) ⟨hall.1,⟨_,hall.2.1⟩,hall.2.2⟩ fun Y ⟨b',hO,hX⟩=> ?_
 clear hall
 have gg:=b'.x9
 exact bodyPost_ret (v:=.agg #[.int .i64 me,.int .i64 ms,.int .i64 mn,.int .i64 md,.int .u32 t0,.int .u32 t1,.int .u64 t2,.int .u64 t3,.int .i64 mp]) (by simp[results,Tryz.results99,go_sem,gg]) rfl (show OpPost w0 W g a ac b V vc op (k:Int) (M1,⟨me,ms,mn,md,⟨t0,t1,t2,t3⟩,mp⟩) _ _ from⟨rfl,hO,hX⟩)
set_option maxHeartbeats 4000000 in
set_option maxRecDepth 20000 in
theorem transfer_any {w0 W:World} {g a ac b:Nat} {V:Option Addr} {vc:Nat} {cs:List Value} {s:Md} {op:MOp} {k:Nat} (h:Off w0 W g a ac b V vc cs s op (k:Int)) (hk:k<s.seats.length) (hk32:k≤4294967295):
 Calls Tryz.prog 100 #[.pointer (some ⟨g,0,none⟩)] W (OpPost w0 W g a ac b V vc op (k:Int) (transferM s op k)):=by
 have hwb:=h.bw.size
 obtain⟨bg,ba',bb⟩:=h.bnd
 obtain⟨r0,r1,r2,r3,r4,hxo⟩:=h.row hk
 have hbo:=h.bo
 have C1:=Lib.hid (fun w=>sxTransfer_any (seatAt s k) op.tk op.to w hxo)
 have HM:=Lib.hid (show transferM s op k=soldM s k (sxTransfer (seatAt s k) op.tk op.to).1 (sxTransfer (seatAt s k) op.tk op.to).2 from rfl)
 have HR:=Lib.hid (show SxOk (sxTransfer (seatAt s k) op.tk op.to).1 from sxTransfer_ok hxo hbo.2.2.2.2.2.2.1)
 generalize transferM s op k=MM at HM⊢
 clear hxo
 generalize sxTransfer (seatAt s k) op.tk op.to=R at C1 HM HR
 obtain⟨⟨q0,q1,q2,q3,q4⟩,re⟩:=R
 unfold sxV tkV at C1
 simp only at C1
 have H:=Lib.hid h
 have hk0:(0:Int)≤(k:Int):=by omega
 have hk1:(k:Int)<(s.seats.length:Int):=by omega
 clear h hbo
 go_enter Tryz.func100,Tryz.ntmps100
 go_upto_region 1 with fail
 refine at_world (fun X=>Below W.heap.size W X∧BoxN X W.heap.size 49 #[.int .i64 0,.int .i64 0,.int .i64 0,.int .i64 0,.int .u32 0,.int .u32 0,.int .u64 0,.int .u64 0,.int .i64 0]) ⟨ba _ _,BoxN.new _ _ _⟩ fun w1 hw1=> ?_
 have hb1:=hw1.1
 have H1:=Lib.hid (H.out.up hb1)
 have J1:=Lib.hid hw1.2
 have HB1:=Lib.hid hb1
 have s0:=gro_cell (cell_later hb1 r0)
 have s1:=gro_cell (cell_later hb1 r1)
 have s2:=gro_cell (cell_later hb1 r2)
 have s3:=gro_cell (cell_later hb1 r3)
 have s4:=gro_cell (cell_later hb1 r4)
 have o5:=gro_cell (H1.out.box.cell 5 (.slice (some ⟨a,0,none⟩) s.seats.length ac) rfl)
 have o19:=gro_cell (H1.out.box.cell 19 (.int .i64 (k:Int)) rfl)
 have o14:=gro_cell (H1.out.box.cell 14 (.int .u32 op.tk.seat) rfl)
 have o15:=gro_cell (H1.out.box.cell 15 (.int .u32 op.tk.owner) rfl)
 have o16:=gro_cell (H1.out.box.cell 16 (.int .u64 op.tk.serial) rfl)
 have o17:=gro_cell (H1.out.box.cell 17 (.int .u64 op.tk.epoch) rfl)
 have o13:=gro_cell (H1.out.box.cell 13 (.int .u32 op.to) rfl)
 clear hw1 hb1 r0 r1 r2 r3 r4 H
 generalize hx:seatAt s k=x at*
 clear hx
 refine wp_region_gro_seq 25 (by kernel_rfl) (by kernel_rfl) (fun _ _ _ _ _ h=>h) ?_
 simp only[List.take_succ_cons,List.take_zero,List.drop_succ_cons,List.drop_zero]
 repeat(go_big_quiet_step (first|(go_at_call 134;exact Calls.gro_of (C1.out _))|fail))
 refine wpQuiet_nil ?_
 rintro _ ⟨p,rfl⟩
 have hg:=gro_below w1 p
 have H2:=Lib.hid (H1.out.up hg)
 have J2:=Lib.hid (J1.out.later hg)
 have HO2:=Lib.hid (Only3.of g a b (bstep HB1.out hg))
 clear s0 s1 s2 s3 s4 o5 o19 o14 o15 o16 o17 o13 hg H1 J1 HB1
 generalize gro w1 p=w2 at H2 J2 HO2⊢
 have C2:=Lib.hid (sold_any H2.out hk hk32 ⟨q0,q1,q2,q3,q4⟩ HR.out re)
 simp only at HM
 rw[←HM.out] at C2
 clear HM HR
 obtain⟨M1,⟨me,ms,mn,md,⟨t0,t1,t2,t3⟩,mp⟩⟩:=MM
 unfold sxV at C2
 go_wp2_with fail
 refine C2.out.mono ?_
 rintro e3 w3 ⟨rfl,⟨cs3,h3⟩,ho3⟩
 have H3:=Lib.hid h3
 have HO3:=Lib.hid (HO2.out.trans ho3)
 have J3:=Lib.hid (J2.out.only ho3 (by omega) (by omega) (by omega))
 clear h3 ho3 C2 H2 HO2 J2 C1
 unfold RpV
 dsimp only
 obtain⟨dc0,df0,dc1,df1,dc2,df2,dc3,df3,dc4,df4,dc5,df5,dc6,df6,dc7,df7,dc8,df8,dz⟩:=J3.out.x9
 go_wp2_with fail
 have b':=J3.out.set9 (.int .i64 me) (.int .i64 ms) (.int .i64 mn) (.int .i64 md) (.int .u32 t0) (.int .u32 t1) (.int .u64 t2) (.int .u64 t3) (.int .i64 mp)
 have hg:=grownBy_putAt [.int .i64 me,.int .i64 ms,.int .i64 mn,.int .i64 md,.int .u32 t0,.int .u32 t1,.int .u64 t2,.int .u64 t3,.int .i64 mp] w3 (W.heap.size) 0
 simp only[putAt,Nat.zero_add,Nat.reduceAdd] at hg
 have hall:=And.intro b' (And.intro (H3.out.new hg (Tag.of_box J3.out) (by omega) (by decide) (by decide) (by decide) (by decide)) (HO3.out.new hg (by omega)))
 clear b' hg dc0 dc1 dc2 dc3 dc4 dc5 dc6 dc7 dc8 df0 df1 df2 df3 df4 df5 df6 df7 df8 dz
 refine at_world (fun X=>BoxN X (W.heap.size) 49 #[.int .i64 me,.int .i64 ms,.int .i64 mn,.int .i64 md,.int .u32 t0,.int .u32 t1,.int .u64 t2,.int .u64 t3,.int .i64 mp]∧(∃cs',Off w0 X g a ac b V vc cs' M1 op (k:Int))∧Only3 g a b W X) ⟨hall.1,⟨_,hall.2.1⟩,hall.2.2⟩ fun Y ⟨b',hO,hX⟩=> ?_
 clear hall
 have gg:=b'.x9
 exact bodyPost_ret (v:=.agg #[.int .i64 me,.int .i64 ms,.int .i64 mn,.int .i64 md,.int .u32 t0,.int .u32 t1,.int .u64 t2,.int .u64 t3,.int .i64 mp]) (by simp[results,Tryz.results100,go_sem,gg]) rfl (show OpPost w0 W g a ac b V vc op (k:Int) (M1,⟨me,ms,mn,md,⟨t0,t1,t2,t3⟩,mp⟩) _ _ from⟨rfl,hO,hX⟩)
set_option maxHeartbeats 4000000 in
set_option maxRecDepth 20000 in
theorem refund_any {w0 W:World} {g a ac b:Nat} {V:Option Addr} {vc:Nat} {cs:List Value} {s:Md} {op:MOp} {k:Nat} (h:Off w0 W g a ac b V vc cs s op (k:Int)) (hk:k<s.seats.length) (hp:0≤(placeV s.ve k).1.sec) (hq:secOf s k<s.qs.length):
 Calls Tryz.prog 101 #[.pointer (some ⟨g,0,none⟩)] W (OpPost w0 W g a ac b V vc op (k:Int) (refundM s op k)):=by
 have hwb:=h.bw.size
 obtain⟨bg,ba',bb⟩:=h.bnd
 obtain⟨r0,r1,r2,r3,r4,hxo⟩:=h.row hk
 have hbo:=h.bo
 have C1:=Lib.hid (sxRefund_any (seatAt s k) op.tk)
 have HM:=Lib.hid (show refundM s op k=freedM s k (sxRefund (seatAt s k) op.tk).1 (sxRefund (seatAt s k) op.tk).2 from rfl)
 have HR:=Lib.hid (show SxOk (sxRefund (seatAt s k) op.tk).1 from sxRefund_ok hxo)
 generalize refundM s op k=MM at HM⊢
 clear hxo
 generalize sxRefund (seatAt s k) op.tk=R at C1 HM HR
 obtain⟨⟨q0,q1,q2,q3,q4⟩,re⟩:=R
 unfold sxV tkV at C1
 simp only at C1
 have H:=Lib.hid h
 have hk0:(0:Int)≤(k:Int):=by omega
 have hk1:(k:Int)<(s.seats.length:Int):=by omega
 clear h hbo
 go_enter Tryz.func101,Tryz.ntmps101
 go_upto_region 1 with fail
 refine at_world (fun X=>Below W.heap.size W X∧BoxN X W.heap.size 49 #[.int .i64 0,.int .i64 0,.int .i64 0,.int .i64 0,.int .u32 0,.int .u32 0,.int .u64 0,.int .u64 0,.int .i64 0]) ⟨ba _ _,BoxN.new _ _ _⟩ fun w1 hw1=> ?_
 have hb1:=hw1.1
 have H1:=Lib.hid (H.out.up hb1)
 have J1:=Lib.hid hw1.2
 have HB1:=Lib.hid hb1
 have s0:=gro_cell (cell_later hb1 r0)
 have s1:=gro_cell (cell_later hb1 r1)
 have s2:=gro_cell (cell_later hb1 r2)
 have s3:=gro_cell (cell_later hb1 r3)
 have s4:=gro_cell (cell_later hb1 r4)
 have o5:=gro_cell (H1.out.box.cell 5 (.slice (some ⟨a,0,none⟩) s.seats.length ac) rfl)
 have o19:=gro_cell (H1.out.box.cell 19 (.int .i64 (k:Int)) rfl)
 have o14:=gro_cell (H1.out.box.cell 14 (.int .u32 op.tk.seat) rfl)
 have o15:=gro_cell (H1.out.box.cell 15 (.int .u32 op.tk.owner) rfl)
 have o16:=gro_cell (H1.out.box.cell 16 (.int .u64 op.tk.serial) rfl)
 have o17:=gro_cell (H1.out.box.cell 17 (.int .u64 op.tk.epoch) rfl)
 clear hw1 hb1 r0 r1 r2 r3 r4 H
 generalize hx:seatAt s k=x at*
 clear hx
 refine wp_region_gro_seq 20 (by kernel_rfl) (by kernel_rfl) (fun _ _ _ _ _ h=>h) ?_
 simp only[List.take_succ_cons,List.take_zero,List.drop_succ_cons,List.drop_zero]
 repeat(go_big_quiet_step (first|(go_at_call 135;exact Calls.gro_of (C1.out _))|fail))
 refine wpQuiet_nil ?_
 rintro _ ⟨p,rfl⟩
 have hg:=gro_below w1 p
 have H2:=Lib.hid (H1.out.up hg)
 have J2:=Lib.hid (J1.out.later hg)
 have HO2:=Lib.hid (Only3.of g a b (bstep HB1.out hg))
 clear s0 s1 s2 s3 s4 o5 o19 o14 o15 o16 o17 hg H1 J1 HB1
 generalize gro w1 p=w2 at H2 J2 HO2⊢
 have C2:=Lib.hid (freed_any H2.out hk hp hq ⟨q0,q1,q2,q3,q4⟩ HR.out re)
 simp only at HM
 rw[←HM.out] at C2
 clear HM HR
 obtain⟨M1,⟨me,ms,mn,md,⟨t0,t1,t2,t3⟩,mp⟩⟩:=MM
 unfold sxV at C2
 go_wp2_with fail
 refine C2.out.mono ?_
 rintro e3 w3 ⟨rfl,⟨cs3,h3⟩,ho3⟩
 have H3:=Lib.hid h3
 have HO3:=Lib.hid (HO2.out.trans ho3)
 have J3:=Lib.hid (J2.out.only ho3 (by omega) (by omega) (by omega))
 clear h3 ho3 C2 H2 HO2 J2 C1
 unfold RpV
 dsimp only
 obtain⟨dc0,df0,dc1,df1,dc2,df2,dc3,df3,dc4,df4,dc5,df5,dc6,df6,dc7,df7,dc8,df8,dz⟩:=J3.out.x9
 go_wp2_with fail
 have b':=J3.out.set9 (.int .i64 me) (.int .i64 ms) (.int .i64 mn) (.int .i64 md) (.int .u32 t0) (.int .u32 t1) (.int .u64 t2) (.int .u64 t3) (.int .i64 mp)
 have hg:=grownBy_putAt [.int .i64 me,.int .i64 ms,.int .i64 mn,.int .i64 md,.int .u32 t0,.int .u32 t1,.int .u64 t2,.int .u64 t3,.int .i64 mp] w3 (W.heap.size) 0
 simp only[putAt,Nat.zero_add,Nat.reduceAdd] at hg
 have hall:=And.intro b' (And.intro (H3.out.new hg (Tag.of_box J3.out) (by omega) (by decide) (by decide) (by decide) (by decide)) (HO3.out.new hg (by omega)))
 clear b' hg dc0 dc1 dc2 dc3 dc4 dc5 dc6 dc7 dc8 df0 df1 df2 df3 df4 df5 df6 df7 df8 dz
 refine at_world (fun X=>BoxN X (W.heap.size) 49 #[.int .i64 me,.int .i64 ms,.int .i64 mn,.int .i64 md,.int .u32 t0,.int .u32 t1,.int .u64 t2,.int .u64 t3,.int .i64 mp]∧(∃cs',Off w0 X g a ac b V vc cs' M1 op (k:Int))∧Only3 g a b W X) ⟨hall.1,⟨_,hall.2.1⟩,hall.2.2⟩ fun Y ⟨b',hO,hX⟩=> ?_
 clear hall
 have gg:=b'.x9
 exact bodyPost_ret (v:=.agg #[.int .i64 me,.int .i64 ms,.int .i64 mn,.int .i64 md,.int .u32 t0,.int .u32 t1,.int .u64 t2,.int .u64 t3,.int .i64 mp]) (by simp[results,Tryz.results101,go_sem,gg]) rfl (show OpPost w0 W g a ac b V vc op (k:Int) (M1,⟨me,ms,mn,md,⟨t0,t1,t2,t3⟩,mp⟩) _ _ from⟨rfl,hO,hX⟩)
set_option maxHeartbeats 4000000 in
set_option maxRecDepth 20000 in
theorem revoke_any {w0 W:World} {g a ac b:Nat} {V:Option Addr} {vc:Nat} {cs:List Value} {s:Md} {op:MOp} {k:Nat} (h:Off w0 W g a ac b V vc cs s op (k:Int)) (hk:k<s.seats.length) (hp:0≤(placeV s.ve k).1.sec) (hq:secOf s k<s.qs.length):
 Calls Tryz.prog 102 #[.pointer (some ⟨g,0,none⟩)] W (OpPost w0 W g a ac b V vc op (k:Int) (revokeM s k)):=by
 have hwb:=h.bw.size
 obtain⟨bg,ba',bb⟩:=h.bnd
 obtain⟨r0,r1,r2,r3,r4,hxo⟩:=h.row hk
 have hbo:=h.bo
 have C1:=Lib.hid (fun w=>sxRevoke_any (seatAt s k) w hxo)
 have HM:=Lib.hid (show revokeM s k=freedM s k (sxRevoke (seatAt s k)).1 (sxRevoke (seatAt s k)).2 from rfl)
 have HR:=Lib.hid (show SxOk (sxRevoke (seatAt s k)).1 from sxRevoke_ok hxo)
 generalize revokeM s k=MM at HM⊢
 clear hxo
 generalize sxRevoke (seatAt s k)=R at C1 HM HR
 obtain⟨⟨q0,q1,q2,q3,q4⟩,re⟩:=R
 unfold sxV at C1
 simp only at C1
 have H:=Lib.hid h
 have hk0:(0:Int)≤(k:Int):=by omega
 have hk1:(k:Int)<(s.seats.length:Int):=by omega
 clear h hbo
 go_enter Tryz.func102,Tryz.ntmps102
 go_upto_region 1 with fail
 refine at_world (fun X=>Below W.heap.size W X∧BoxN X W.heap.size 49 #[.int .i64 0,.int .i64 0,.int .i64 0,.int .i64 0,.int .u32 0,.int .u32 0,.int .u64 0,.int .u64 0,.int .i64 0]) ⟨ba _ _,BoxN.new _ _ _⟩ fun w1 hw1=> ?_
 have hb1:=hw1.1
 have H1:=Lib.hid (H.out.up hb1)
 have J1:=Lib.hid hw1.2
 have HB1:=Lib.hid hb1
 have s0:=gro_cell (cell_later hb1 r0)
 have s1:=gro_cell (cell_later hb1 r1)
 have s2:=gro_cell (cell_later hb1 r2)
 have s3:=gro_cell (cell_later hb1 r3)
 have s4:=gro_cell (cell_later hb1 r4)
 have o5:=gro_cell (H1.out.box.cell 5 (.slice (some ⟨a,0,none⟩) s.seats.length ac) rfl)
 have o19:=gro_cell (H1.out.box.cell 19 (.int .i64 (k:Int)) rfl)
 clear hw1 hb1 r0 r1 r2 r3 r4 H
 generalize hx:seatAt s k=x at*
 clear hx
 refine wp_region_gro_seq 15 (by kernel_rfl) (by kernel_rfl) (fun _ _ _ _ _ h=>h) ?_
 simp only[List.take_succ_cons,List.take_zero,List.drop_succ_cons,List.drop_zero]
 repeat(go_big_quiet_step (first|(go_at_call 136;exact Calls.gro_of (C1.out _))|fail))
 refine wpQuiet_nil ?_
 rintro _ ⟨p,rfl⟩
 have hg:=gro_below w1 p
 have H2:=Lib.hid (H1.out.up hg)
 have J2:=Lib.hid (J1.out.later hg)
 have HO2:=Lib.hid (Only3.of g a b (bstep HB1.out hg))
 clear s0 s1 s2 s3 s4 o5 o19 hg H1 J1 HB1
 generalize gro w1 p=w2 at H2 J2 HO2⊢
 have C2:=Lib.hid (freed_any H2.out hk hp hq ⟨q0,q1,q2,q3,q4⟩ HR.out re)
 simp only at HM
 rw[←HM.out] at C2
 clear HM HR
 obtain⟨M1,⟨me,ms,mn,md,⟨t0,t1,t2,t3⟩,mp⟩⟩:=MM
 unfold sxV at C2
 go_wp2_with fail
 refine C2.out.mono ?_
 rintro e3 w3 ⟨rfl,⟨cs3,h3⟩,ho3⟩
 have H3:=Lib.hid h3
 have HO3:=Lib.hid (HO2.out.trans ho3)
 have J3:=Lib.hid (J2.out.only ho3 (by omega) (by omega) (by omega))
 clear h3 ho3 C2 H2 HO2 J2 C1
 unfold RpV
 dsimp only
 obtain⟨dc0,df0,dc1,df1,dc2,df2,dc3,df3,dc4,df4,dc5,df5,dc6,df6,dc7,df7,dc8,df8,dz⟩:=J3.out.x9
 go_wp2_with fail
 have b':=J3.out.set9 (.int .i64 me) (.int .i64 ms) (.int .i64 mn) (.int .i64 md) (.int .u32 t0) (.int .u32 t1) (.int .u64 t2) (.int .u64 t3) (.int .i64 mp)
 have hg:=grownBy_putAt [.int .i64 me,.int .i64 ms,.int .i64 mn,.int .i64 md,.int .u32 t0,.int .u32 t1,.int .u64 t2,.int .u64 t3,.int .i64 mp] w3 (W.heap.size) 0
 simp only[putAt,Nat.zero_add,Nat.reduceAdd] at hg
 have hall:=And.intro b' (And.intro (H3.out.new hg (Tag.of_box J3.out) (by omega) (by decide) (by decide) (by decide) (by decide)) (HO3.out.new hg (by omega)))
 clear b' hg dc0 dc1 dc2 dc3 dc4 dc5 dc6 dc7 dc8 df0 df1 df2 df3 df4 df5 df6 df7 df8 dz
 refine at_world (fun X=>BoxN X (W.heap.size) 49 #[.int .i64 me,.int .i64 ms,.int .i64 mn,.int .i64 md,.int .u32 t0,.int .u32 t1,.int .u64 t2,.int .u64 t3,.int .i64 mp]∧(∃cs',Off w0 X g a ac b V vc cs' M1 op (k:Int))∧Only3 g a b W X) ⟨hall.1,⟨_,hall.2.1⟩,hall.2.2⟩ fun Y ⟨b',hO,hX⟩=> ?_
 clear hall
 have gg:=b'.x9
 exact bodyPost_ret (v:=.agg #[.int .i64 me,.int .i64 ms,.int .i64 mn,.int .i64 md,.int .u32 t0,.int .u32 t1,.int .u64 t2,.int .u64 t3,.int .i64 mp]) (by simp[results,Tryz.results102,go_sem,gg]) rfl (show OpPost w0 W g a ac b V vc op (k:Int) (M1,⟨me,ms,mn,md,⟨t0,t1,t2,t3⟩,mp⟩) _ _ from⟨rfl,hO,hX⟩)
end Go.Proofs.YtlckmjiioohcmaaGreatDoor
namespace Go.Proofs.YtlckmjiioohcmaaGreatDoor
open Go.RowKit
def holdM (s:Md) (op:MOp) (k:Nat):Md×MRp:=if(sxHold (seatAt s k) op.owner (untilM s s.ve.ttl)).2=0 then(setM s k (sxHold (seatAt s k) op.owner (untilM s s.ve.ttl)).1,{noRp with deadline:=untilM s s.ve.ttl})
 else(s,{noRp with err:=(sxHold (seatAt s k) op.owner (untilM s s.ve.ttl)).2})
set_option maxHeartbeats 4000000 in
set_option maxRecDepth 20000 in
theorem validate_any {w0 W:World} {g a ac b:Nat} {V:Option Addr} {vc:Nat} {cs:List Value} {s:Md} {op:MOp} {k:Nat} (h:Off w0 W g a ac b V vc cs s op (k:Int)) (hk:k<s.seats.length):
 Calls Tryz.prog 103 #[.pointer (some ⟨g,0,none⟩)] W (OpPost w0 W g a ac b V vc op (k:Int) (validateM s op k)):=by
 have hwb:=h.bw.size
 obtain⟨bg,ba',bb⟩:=h.bnd
 obtain⟨r0,r1,r2,r3,r4,hxo⟩:=h.row hk
 have hbo:=h.bo
 have C1:=Lib.hid (sxValid_any (seatAt s k) op.tk)
 have HM:=Lib.hid (show validateM s op k=(s,⟨sxValid (seatAt s k) op.tk,0,0,0,noTk,0⟩) from rfl)
 generalize validateM s op k=MM at HM⊢
 generalize sxValid (seatAt s k) op.tk=E at C1 HM
 unfold sxV tkV at C1
 have H:=Lib.hid h
 have hk0:(0:Int)≤(k:Int):=by omega
 have hk1:(k:Int)<(s.seats.length:Int):=by omega
 clear h hbo
 go_enter Tryz.func103,Tryz.ntmps103
 go_upto_region 1 with fail
 refine at_world (fun X=>Below W.heap.size W X∧BoxN X W.heap.size 49 #[.int .i64 0,.int .i64 0,.int .i64 0,.int .i64 0,.int .u32 0,.int .u32 0,.int .u64 0,.int .u64 0,.int .i64 0]) ⟨ba _ _,BoxN.new _ _ _⟩ fun w1 hw1=> ?_
 have hb1:=hw1.1
 have H1:=Lib.hid (H.out.up hb1)
 have J1:=Lib.hid hw1.2
 have HB1:=Lib.hid hb1
 have s0:=gro_cell (cell_later hb1 r0)
 have s1:=gro_cell (cell_later hb1 r1)
 have s2:=gro_cell (cell_later hb1 r2)
 have s3:=gro_cell (cell_later hb1 r3)
 have s4:=gro_cell (cell_later hb1 r4)
 have o5:=gro_cell (H1.out.box.cell 5 (.slice (some ⟨a,0,none⟩) s.seats.length ac) rfl)
 have o19:=gro_cell (H1.out.box.cell 19 (.int .i64 (k:Int)) rfl)
 have o14:=gro_cell (H1.out.box.cell 14 (.int .u32 op.tk.seat) rfl)
 have o15:=gro_cell (H1.out.box.cell 15 (.int .u32 op.tk.owner) rfl)
 have o16:=gro_cell (H1.out.box.cell 16 (.int .u64 op.tk.serial) rfl)
 have o17:=gro_cell (H1.out.box.cell 17 (.int .u64 op.tk.epoch) rfl)
 clear hw1 hb1 r0 r1 r2 r3 r4 H
 generalize hx:seatAt s k=x at*
 clear hx
 refine wp_region_gro_seq 18 (by kernel_rfl) (by kernel_rfl) (fun _ _ _ _ _ h=>h) ?_
 simp only[List.take_succ_cons,List.take_zero,List.drop_succ_cons,List.drop_zero]
 repeat(go_big_quiet_step (first|(go_at_call 137;exact Calls.gro_of (C1.out _))|fail))
 refine wpQuiet_nil ?_
 rintro _ ⟨p,rfl⟩
 have hg:=gro_below w1 p
 have H2:=Lib.hid (H1.out.up hg)
 have J2:=Lib.hid (J1.out.later hg)
 have HO2:=Lib.hid (Only3.of g a b (bstep HB1.out hg))
 clear s0 s1 s2 s3 s4 o5 o19 o14 o15 o16 o17 hg H1 J1 HB1
 generalize gro w1 p=w2 at H2 J2 HO2⊢
 obtain⟨dc0,df0,dc1,df1,dc2,df2,dc3,df3,dc4,df4,dc5,df5,dc6,df6,dc7,df7,dc8,df8,dz⟩:=J2.out.x9
 go_wp2_with fail
 have b':=J2.out.set9 (.int .i64 E) (.int .i64 0) (.int .i64 0) (.int .i64 0) (.int .u32 0) (.int .u32 0) (.int .u64 0) (.int .u64 0) (.int .i64 0)
 have hg:=grownBy_putAt [.int .i64 E,.int .i64 0,.int .i64 0,.int .i64 0,.int .u32 0,.int .u32 0,.int .u64 0,.int .u64 0,.int .i64 0] w2 (W.heap.size) 0
 simp only[putAt,Nat.zero_add,Nat.reduceAdd] at hg
 have hall:=And.intro b' (And.intro (H2.out.new hg (Tag.of_box J2.out) (by omega) (by decide) (by decide) (by decide) (by decide)) (HO2.out.new hg (by omega)))
 clear b' hg dc0 dc1 dc2 dc3 dc4 dc5 dc6 dc7 dc8 df0 df1 df2 df3 df4 df5 df6 df7 df8 dz
 refine at_world (fun X=>BoxN X (W.heap.size) 49 #[.int .i64 E,.int .i64 0,.int .i64 0,.int .i64 0,.int .u32 0,.int .u32 0,.int .u64 0,.int .u64 0,.int .i64 0]∧(∃cs',Off w0 X g a ac b V vc cs' s op (k:Int))∧Only3 g a b W X) ⟨hall.1,⟨_,hall.2.1⟩,hall.2.2⟩ fun Y ⟨b',hO,hX⟩=> ?_
 clear hall
 have gg:=b'.x9
 exact bodyPost_ret (v:=.agg #[.int .i64 E,.int .i64 0,.int .i64 0,.int .i64 0,.int .u32 0,.int .u32 0,.int .u64 0,.int .u64 0,.int .i64 0]) (by simp[results,Tryz.results103,go_sem,gg]) rfl (show OpPost w0 W g a ac b V vc op (k:Int) MM _ _ from by rw[HM.out];exact⟨rfl,hO,hX⟩)
set_option maxHeartbeats 4000000 in
set_option maxRecDepth 20000 in
theorem open_any {w0 W:World} {g a ac b:Nat} {V:Option Addr} {vc:Nat} {cs:List Value} {s:Md} {op:MOp} {seat:Int} (h:Off w0 W g a ac b V vc cs s op seat):
 Calls Tryz.prog 95 #[.pointer (some ⟨g,0,none⟩)] W (OpPost w0 W g a ac b V vc op seat (openM s)):=by
 have hwb:=h.bw.size
 obtain⟨bg,ba',bb⟩:=h.bnd
 have H:=Lib.hid h
 have HM:=Lib.hid (show openM s=(s,⟨0,0,0,untilM s s.ve.session,noTk,0⟩) from rfl)
 generalize openM s=MM at HM⊢
 have C1:=Lib.hid (fun X (hb:Below W.heap.size W X)=>until_any (h.up hb) s.ve.session h.bv.2.2)
 generalize untilM s s.ve.session=D at C1 HM
 have J0:=Lib.hid (BoxN.new W 49 #[.int .i64 0,.int .i64 0,.int .i64 0,.int .i64 0,.int .u32 0,.int .u32 0,.int .u64 0,.int .u64 0,.int .i64 0])
 have o2:=((h.up (ba W (.cells #[.int .i64 0,.int .i64 0,.int .i64 0,.int .i64 0,.int .u32 0,.int .u32 0,.int .u64 0,.int .u64 0,.int .i64 0] 49))).box.cell 2 (.int .i64 s.ve.session) rfl)
 have zg:=h.box.lt
 have o2':=h.box.cell 2 (.int .i64 s.ve.session) rfl
 clear h o2
 go_enter Tryz.func95,Tryz.ntmps95
 go_wp2_with fail
 refine(C1.out _ (ba _ _)).mono ?_
 rintro e1 w2 ⟨rfl,hb⟩
 have H2:=Lib.hid ((H.out.up (ba _ _)).up hb)
 have J2:=Lib.hid (J0.out.later hb)
 have HO2:=Lib.hid (Only3.of g a b (bstep (ba W _) hb))
 clear hb o2' zg J0 C1 H
 obtain⟨dc0,df0,dc1,df1,dc2,df2,dc3,df3,dc4,df4,dc5,df5,dc6,df6,dc7,df7,dc8,df8,dz⟩:=J2.out.x9
 go_wp2_with fail
 have b':=J2.out.set9 (.int .i64 0) (.int .i64 0) (.int .i64 0) (.int .i64 D) (.int .u32 0) (.int .u32 0) (.int .u64 0) (.int .u64 0) (.int .i64 0)
 have hg:=grownBy_putAt [.int .i64 0,.int .i64 0,.int .i64 0,.int .i64 D,.int .u32 0,.int .u32 0,.int .u64 0,.int .u64 0,.int .i64 0] w2 (W.heap.size) 0
 simp only[putAt,Nat.zero_add,Nat.reduceAdd] at hg
 have hall:=And.intro b' (And.intro (H2.out.new hg (Tag.of_box J2.out) (by omega) (by decide) (by decide) (by decide) (by decide)) (HO2.out.new hg (by omega)))
 clear b' hg dc0 dc1 dc2 dc3 dc4 dc5 dc6 dc7 dc8 df0 df1 df2 df3 df4 df5 df6 df7 df8 dz
 refine at_world (fun X=>BoxN X (W.heap.size) 49 #[.int .i64 0,.int .i64 0,.int .i64 0,.int .i64 D,.int .u32 0,.int .u32 0,.int .u64 0,.int .u64 0,.int .i64 0]∧(∃cs',Off w0 X g a ac b V vc cs' s op seat)∧Only3 g a b W X) ⟨hall.1,⟨_,hall.2.1⟩,hall.2.2⟩ fun Y ⟨b',hO,hX⟩=> ?_
 clear hall
 have gg:=b'.x9
 exact bodyPost_ret (v:=.agg #[.int .i64 0,.int .i64 0,.int .i64 0,.int .i64 D,.int .u32 0,.int .u32 0,.int .u64 0,.int .u64 0,.int .i64 0]) (by simp[results,Tryz.results95,go_sem,gg]) rfl (show OpPost w0 W g a ac b V vc op seat MM _ _ from by rw[HM.out];exact⟨rfl,hO,hX⟩)
set_option maxHeartbeats 4000000 in
set_option maxRecDepth 20000 in
theorem hold_any {w0 W:World} {g a ac b:Nat} {V:Option Addr} {vc:Nat} {cs:List Value} {s:Md} {op:MOp} {k:Nat} (h:Off w0 W g a ac b V vc cs s op (k:Int)) (hk:k<s.seats.length):
 Calls Tryz.prog 96 #[.pointer (some ⟨g,0,none⟩)] W (OpPost w0 W g a ac b V vc op (k:Int) (holdM s op k)):=by
 have hwb:=h.bw.size
 obtain⟨bg,ba',bb⟩:=h.bnd
 obtain⟨r0,r1,r2,r3,r4,hxo⟩:=h.row hk
 have hbo:=h.bo
 have hub:Bd (untilM s s.ve.ttl):=addT_bd _ _ h.bn h.bv.2.1
 have C0:=Lib.hid (fun X (hb:Below W.heap.size W X)=>until_any (h.up hb) s.ve.ttl h.bv.2.1)
 have C1:=Lib.hid (sxHold_any (seatAt s k) op.owner (untilM s s.ve.ttl))
 have HR:=Lib.hid (show SxOk (sxHold (seatAt s k) op.owner (untilM s s.ve.ttl)).1 from sxHold_ok hxo hbo.2.1 hub)
 have HM:=Lib.hid (show holdM s op k=if(sxHold (seatAt s k) op.owner (untilM s s.ve.ttl)).2=0 then(setM s k (sxHold (seatAt s k) op.owner (untilM s s.ve.ttl)).1,⟨0,0,0,untilM s s.ve.ttl,noTk,0⟩)
  else(s,⟨(sxHold (seatAt s k) op.owner (untilM s s.ve.ttl)).2,0,0,0,noTk,0⟩) from rfl)
 generalize holdM s op k=MM at HM⊢
 clear hxo hub
 generalize untilM s s.ve.ttl=D at C0 C1 HR HM
 generalize sxHold (seatAt s k) op.owner D=R at C1 HM HR
 obtain⟨⟨q0,q1,q2,q3,q4⟩,re⟩:=R
 unfold sxV at C1
 simp only at C1 HM
 have H:=Lib.hid h
 have hk0:(0:Int)≤(k:Int):=by omega
 have hk1:(k:Int)<(s.seats.length:Int):=by omega
 have J0:=Lib.hid (BoxN.new W 49 #[.int .i64 0,.int .i64 0,.int .i64 0,.int .i64 0,.int .u32 0,.int .u32 0,.int .u64 0,.int .u64 0,.int .i64 0])
 have o1:=h.box.cell 1 (.int .i64 s.ve.ttl) rfl
 clear h hbo
 go_enter Tryz.func96,Tryz.ntmps96
 go_wp2_with fail
 refine(C0.out _ (ba _ _)).mono ?_
 rintro e1 w1 ⟨rfl,hb⟩
 have H1:=Lib.hid ((H.out.up (ba _ _)).up hb)
 have J1:=Lib.hid (J0.out.later hb)
 have HB1:=Lib.hid (bstep (ba W _) hb)
 clear o1 hb
 go_upto_region 2 with fail
 have hb1:=HB1.out
 have s0:=gro_cell (cell_later hb1 r0)
 have s1:=gro_cell (cell_later hb1 r1)
 have s2:=gro_cell (cell_later hb1 r2)
 have s3:=gro_cell (cell_later hb1 r3)
 have s4:=gro_cell (cell_later hb1 r4)
 have o5:=gro_cell (H1.out.box.cell 5 (.slice (some ⟨a,0,none⟩) s.seats.length ac) rfl)
 have o19:=gro_cell (H1.out.box.cell 19 (.int .i64 (k:Int)) rfl)
 have o8:=gro_cell (H1.out.box.cell 8 (.int .u32 op.owner) rfl)
 clear hb1 r0 r1 r2 r3 r4 H J0
 generalize hx:seatAt s k=x at*
 clear hx
 refine wp_region_gro_seq 21 (by kernel_rfl) (by kernel_rfl) (fun _ _ _ _ _ h=>h) ?_
 simp only[List.take_succ_cons,List.take_zero,List.drop_succ_cons,List.drop_zero]
 repeat(go_big_quiet_step (first|(go_at_call 128;exact Calls.gro_of (C1.out _))|fail))
 refine wpQuiet_nil ?_
 rintro _ ⟨p,rfl⟩
 have hg:=gro_below w1 p
 have H2:=Lib.hid (H1.out.up hg)
 have J2:=Lib.hid (J1.out.later hg)
 have HO2:=Lib.hid (Only3.of g a b (bstep HB1.out hg))
 clear s0 s1 s2 s3 s4 o5 o19 o8 hg H1 J1 HB1
 generalize gro w1 p=w2 at H2 J2 HO2⊢
 have C2:=Lib.hid (change_any H2.out hk ⟨q0,q1,q2,q3,q4⟩ HR.out re)
 unfold sxV at C2
 go_wp2_with fail
 refine C2.out.mono ?_
 rintro e3 w3 ⟨rfl,h3,ho3⟩
 have H3:=Lib.hid h3
 have HO3:=Lib.hid (HO2.out.trans ho3)
 have J3:=Lib.hid (J2.out.only ho3 (by omega) (by omega) (by omega))
 clear h3 ho3 C2 H2 HO2 J2 C1 C0 HR
 obtain⟨dc0,df0,dc1,df1,dc2,df2,dc3,df3,dc4,df4,dc5,df5,dc6,df6,dc7,df7,dc8,df8,dz⟩:=J3.out.x9
 by_cases he:re=0
 ·subst he
  replace HM:=Lib.hid (show MM=(setM s k ⟨q0,q1,q2,q3,q4⟩,⟨0,0,0,D,noTk,0⟩) from HM.out)
  have hc:changeM s k ⟨q0,q1,q2,q3,q4⟩ 0=setM s k ⟨q0,q1,q2,q3,q4⟩:=by simp[changeM]
  rw[hc] at H3
  clear hc
  go_wp2_with fail
  have b':=J3.out.set9 (.int .i64 0) (.int .i64 0) (.int .i64 0) (.int .i64 D) (.int .u32 0) (.int .u32 0) (.int .u64 0) (.int .u64 0) (.int .i64 0)
  have hg:=grownBy_putAt [.int .i64 0,.int .i64 0,.int .i64 0,.int .i64 D,.int .u32 0,.int .u32 0,.int .u64 0,.int .u64 0,.int .i64 0] w3 (W.heap.size) 0
  simp only[putAt,Nat.zero_add,Nat.reduceAdd] at hg
  have hall:=And.intro b' (And.intro (H3.out.new hg (Tag.of_box J3.out) (by omega) (by decide) (by decide) (by decide) (by decide)) (HO3.out.new hg (by omega)))
  clear b' hg dc0 dc1 dc2 dc3 dc4 dc5 dc6 dc7 dc8 df0 df1 df2 df3 df4 df5 df6 df7 df8 dz
  refine at_world (fun X=>BoxN X (W.heap.size) 49 #[.int .i64 0,.int .i64 0,.int .i64 0,.int .i64 D,.int .u32 0,.int .u32 0,.int .u64 0,.int .u64 0,.int .i64 0]∧(∃cs',Off w0 X g a ac b V vc cs' (setM s k ⟨q0,q1,q2,q3,q4⟩) op (k:Int))∧Only3 g a b W X) ⟨hall.1,⟨_,hall.2.1⟩,hall.2.2⟩ fun Y ⟨b',hO,hX⟩=> ?_
  clear hall
  have gg:=b'.x9
  exact bodyPost_ret (v:=.agg #[.int .i64 0,.int .i64 0,.int .i64 0,.int .i64 D,.int .u32 0,.int .u32 0,.int .u64 0,.int .u64 0,.int .i64 0]) (by simp[results,Tryz.results96,go_sem,gg]) rfl (show OpPost w0 W g a ac b V vc op (k:Int) MM _ _ from by rw[HM.out];exact⟨rfl,hO,hX⟩)
 ·replace HM:=Lib.hid (show MM=(s,⟨re,0,0,0,noTk,0⟩) by rw[HM.out,if_neg he])
  have hc:changeM s k ⟨q0,q1,q2,q3,q4⟩ re=s:=by simp[changeM,he]
  rw[hc] at H3
  have t:(re !=0)=true:=by simpa using he
  clear hc he
  go_wp2_with fail
  have b':=J3.out.set9 (.int .i64 re) (.int .i64 0) (.int .i64 0) (.int .i64 0) (.int .u32 0) (.int .u32 0) (.int .u64 0) (.int .u64 0) (.int .i64 0)
  have hg:=grownBy_putAt [.int .i64 re,.int .i64 0,.int .i64 0,.int .i64 0,.int .u32 0,.int .u32 0,.int .u64 0,.int .u64 0,.int .i64 0] w3 (W.heap.size) 0
  simp only[putAt,Nat.zero_add,Nat.reduceAdd] at hg
  have hall:=And.intro b' (And.intro (H3.out.new hg (Tag.of_box J3.out) (by omega) (by decide) (by decide) (by decide) (by decide)) (HO3.out.new hg (by omega)))
  clear b' hg dc0 dc1 dc2 dc3 dc4 dc5 dc6 dc7 dc8 df0 df1 df2 df3 df4 df5 df6 df7 df8 dz
  refine at_world (fun X=>BoxN X (W.heap.size) 49 #[.int .i64 re,.int .i64 0,.int .i64 0,.int .i64 0,.int .u32 0,.int .u32 0,.int .u64 0,.int .u64 0,.int .i64 0]∧(∃cs',Off w0 X g a ac b V vc cs' s op (k:Int))∧Only3 g a b W X) ⟨hall.1,⟨_,hall.2.1⟩,hall.2.2⟩ fun Y ⟨b',hO,hX⟩=> ?_
  clear hall
  have gg:=b'.x9
  exact bodyPost_ret (v:=.agg #[.int .i64 re,.int .i64 0,.int .i64 0,.int .i64 0,.int .u32 0,.int .u32 0,.int .u64 0,.int .u64 0,.int .i64 0]) (by simp[results,Tryz.results96,go_sem,gg]) rfl (show OpPost w0 W g a ac b V vc op (k:Int) MM _ _ from by rw[HM.out];exact⟨rfl,hO,hX⟩)
end Go.Proofs.YtlckmjiioohcmaaGreatDoor

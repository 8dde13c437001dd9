/-
  Walk of groundlingref23.tick. Conditions: as the theorem says.
-/
import Derived.Test.YtlckmjiioohcmaaGreatDoorRmB
namespace Go.Proofs.YtlckmjiioohcmaaGreatDoor
open Go.RowKit
theorem seatAt_offer {s:Md} {i y:Nat} (h:y≠i):seatAt (offerM s i) y=seatAt s y:=by
 unfold offerM
 split
 ·simp[seatAt,List.getElem?_set_ne (Ne.symm h)]
 ·rfl
theorem seatAt_expire {s:Md} {i y:Nat} (h:y≠i):seatAt (expireM s i) y=seatAt s y:=by
 unfold expireM
 rw[seatAt_offer h,seatAt_set,if_neg (by omega)]
structure TickSt (s1 c:Md) (l:List Int) (key:Int→Int) (FIN:Md):Prop where
 ok:MdOk c
 now:c.now=s1.now
 ve:c.ve=s1.ve
 len:c.seats.length=s1.seats.length
 qlen:c.qs.length=s1.qs.length
 asc:l.Pairwise (· < ·)
 ins:∀y∈l,∃k:Nat,y=(k:Int)∧k<s1.seats.length
 keys:∀y∈l,tillAt c y=key y
 fin:(selS key l.length l).foldl (fun s x=>expireM s x.toNat) c=FIN
theorem TickSt.start {s1:Md} (h:MdOk s1):TickSt s1 s1 (dueM s1) (tillAt s1) ((srt (tillAt s1) (dueM s1)).foldl (fun s x=>expireM s x.toNat) s1):=
 ⟨h,rfl,rfl,rfl,rfl,dueFrom_asc _ _,fun y hy=>by
  obtain⟨k,h1,_,h3⟩:=dueFrom_mem hy
  exact⟨k,h1,by omega⟩,fun _ _=>rfl,by rw[selS_srt _ (show(dueM s1).Pairwise (· < ·) from dueFrom_asc _ _)]⟩
theorem TickSt.done {s1 c:Md} {key:Int→Int} {FIN:Md} (h:TickSt s1 c [] key FIN):c=FIN:=h.fin
theorem TickSt.step {s1 c:Md} {l:List Int} {key:Int→Int} {FIN:Md} (h:TickSt s1 c l key FIN) (hne:l≠[]) {i:Nat} (hi:l[pickI key l l.length]'(pickI_lt key hne _ (Nat.le_refl _))=(i:Int)):
 TickSt s1 (expireM c i) (l.eraseIdx (pickI key l l.length)) key FIN:=by
 have hlt:=pickI_lt key hne _ (Nat.le_refl _)
 obtain⟨e1,e2,e3,e4⟩:=expireM_same c i
 refine⟨h.ok.expire i,e2.trans h.now,e1.trans h.ve,e3.trans h.len,e4.trans h.qlen,h.asc.sublist (List.eraseIdx_sublist _ _),fun y hy=>h.ins y (List.mem_of_mem_eraseIdx hy),fun y hy=> ?_, ?_⟩
 ·have hm:=List.mem_of_mem_eraseIdx hy
  rw[←h.keys y hm]
  unfold tillAt
  rw[seatAt_expire]
  intro e
  obtain⟨k,hk,_⟩:=h.ins y hm
  obtain⟨j,hj,hjp,rfl⟩:∃j,∃hj:j<l.length,j≠pickI key l l.length∧y=l[j]:=by
   rw[List.eraseIdx_eq_take_drop_succ] at hy
   rcases List.mem_append.1 hy with hy|hy
   ·obtain⟨j,hj,h3,h4⟩:=mem_take_i hy
    exact⟨j,hj,by omega,h4⟩
   ·obtain⟨j,hj,h3,h4⟩:=mem_drop_i hy
    exact⟨j,hj,by omega,h4⟩
  have hp:=List.pairwise_iff_getElem.1 h.asc
  rcases Nat.lt_or_gt_of_ne hjp with h5|h5
  ·have:=hp j _ hj hlt h5
   omega
  ·have:=hp _ j hlt hj h5
   omega
 ·have hf:=h.fin
  obtain⟨n,hn⟩:∃n,l.length=n+1:=⟨l.length-1,by have:=List.length_pos_iff.2 hne;omega⟩
  have hl:(l.eraseIdx (pickI key l l.length)).length=n:=by rw[List.length_eraseIdx];simp[hlt];omega
  have hg:l.getD (pickI key l l.length) 0=(i:Int):=by rw[List.getD_eq_getElem?_getD,List.getElem?_eq_getElem hlt,hi];rfl
  have e:selS key l.length l=l.getD (pickI key l l.length) 0::selS key n (l.eraseIdx (pickI key l l.length)):=by
   conv=>lhs;rw[hn]
   rfl
  rw[e,hg,List.foldl_cons] at hf
  rw[hl]
  simpa using hf
theorem RMem.kept_own {α:Type} {R:Rep α} {e B:Nat} {w0 W W':World} {V:Option Addr} {vc a ac b qc:Nat} {vs:List Value} {s:Md} {u:Value} {xs:List α} (h:RMem w0 W V vc a ac b qc vs s) (ho:Own R e B W u xs) (hg:W.grownBy W' u.ownBlock) (hB:w0.heap.size≤B) (n1:e≠81) (n2:e≠85) (n3:e≠41):RMem w0 W' V vc a ac b qc vs s:=by
 have ho':=ho
 obtain⟨cells,hr,_⟩:=ho'
 rcases hr.2 with⟨rfl,_⟩|⟨g,cap,cur,rfl,_⟩
 ·exact h.up (below_grown hg (Nat.le_refl _) (fun k hk=>by cases hk))
 ·exact h.kept hg (Tag.of_own ho) (Nat.le_trans hB ho.block.1) n1 n2 n3
theorem Only3.grown_own {α:Type} {R:Rep α} {e g a b:Nat} {W X Y:World} {u:Value} {xs:List α} (h:Only3 g a b W X) (ho:Own R e W.heap.size X u xs) (hg:X.grownBy Y u.ownBlock):Only3 g a b W Y:=
 ⟨hg.os.trans h.os,hg.tape.trans h.tape,hg.output.trans h.output,Nat.le_trans h.size hg.size,fun i hi h1 h2 h3=>(hg.block i (Nat.lt_of_lt_of_le hi h.size) (fun e=>by have:=(ho.lt i e.symm).1;omega)).trans (h.block i hi h1 h2 h3)⟩
theorem Sl.front {α:Type} {R:Rep α} {w:World} {A:Option Addr} {n c:Nat} {xs:List α} (h:Sl R w (.slice A n c) xs) {p:Nat} (hp:p≤xs.length):Sl R w (.slice A p c) (xs.take p):=by
 obtain⟨A',d,he,h1,h2,h3⟩:=h
 injection he with e1 e2 e3
 subst e1 e3
 refine⟨_,_,by rw[List.length_take,Nat.min_eq_left hp],by rw[List.length_take];omega,h2, ?_⟩
 rcases h3 with⟨h3,h4⟩|⟨b,off,hA,hlt,hcells⟩
 ·exact .inl ⟨by rw[List.length_take];omega,h4⟩
 ·refine .inr ⟨b,off,hA,hlt,fun i x hi=> ?_⟩
  rw[List.getElem?_take] at hi
  split at hi
  ·exact hcells i x hi
  ·cases hi
theorem behind_sl {α:Type} {R:Rep α} {w:World} {b n c:Nat} {xs:List α} (h:Sl R w (.slice (some ⟨b,0,none⟩) n c) xs) (hR:R.size=1) {k:Nat} (hk:k≤xs.length):
 Sl R w (.slice (if c=k then some ⟨b,0,none⟩ else some ⟨b,k,none⟩) (xs.length-k) (c-k)) (xs.drop k):=by
 by_cases e:c=k
 ·rw[if_pos e]
  obtain⟨A',d,he,h1,h2,h3⟩:=h
  injection he with e1 e2 e3
  subst e3
  have h4:xs.length-k=0:=by omega
  have h5:xs.drop k=[]:=List.drop_eq_nil_of_le (by omega)
  rw[h5,h4,e,Nat.sub_self]
  exact⟨_,_,rfl,by simp,by simp,.inl ⟨rfl,rfl⟩⟩
 ·rw[if_neg e]
  exact h.drop hk (by rw[hR,Nat.mul_one,Nat.zero_add]) rfl rfl
theorem asc_len:∀{l:List Int} {n:Nat},l.Pairwise (· < ·)→(∀y∈l,∃k:Nat,y=(k:Int)∧k<n)→l.length≤n:=by
 intro l
 induction h:l.length generalizing l with
 |zero=>intro n _ _;omega
 |succ m ih=>
  intro n hp hm
  have hne:l≠[]:=by intro e;rw[e] at h;simp at h
  obtain⟨b,x,rfl⟩:∃b x,l=b++[x]:=⟨l.dropLast,l.getLast hne,(List.dropLast_concat_getLast hne).symm⟩
  obtain⟨k,rfl,hk⟩:=hm x (by simp)
  have h1:=List.pairwise_append.1 hp
  have:= @ih b (by simpa using h) k h1.1 (fun y hy=>by
   obtain⟨j,rfl,_⟩:=hm y (by simp[hy])
   have:=h1.2.2 (j:Int) hy (k:Int) (by simp)
   exact⟨j,rfl,by omega⟩)
  omega
def lenOfV:Value→Nat
 | .slice _ n _=>n
 |_=>0
theorem Own.lenV {α:Type} {R:Rep α} {e B:Nat} {w:World} {v:Value} {xs:List α} (h:Own R e B w v xs):lenOfV v=xs.length:=by
 obtain⟨A,c,rfl,_⟩:=h.form
 rfl
theorem Own.only3 {α:Type} {R:Rep α} {e B a b:Nat} {w w':World} {v:Value} {xs:List α} (h:Own R e B w v xs) (ho:Only3 a a b w w') (hf:R.flat) {α' β':Type} {R1:Rep α'} {R2:Rep β'} {e1 e2 B1 B2 n1 c1 n2 c2:Nat} {ys:List α'} {zs:List β'}
 (h1:Own R1 e1 B1 w (.slice (some ⟨a,0,none⟩) n1 c1) ys) (h2:Own R2 e2 B2 w (.slice (some ⟨b,0,none⟩) n2 c2) zs) (n1':e≠e1) (n2':e≠e2):Own R e B w' v xs:=
 h.same (fun k hk=>ho.block k (h.lt k hk).2 (fun e=>h.apart h1 n1' k hk (by rw[e];rfl)) (fun e=>h.apart h1 n1' k hk (by rw[e];rfl)) (fun e=>h.apart h2 n2' k hk (by rw[e];rfl))) hf
set_option maxHeartbeats 8000000 in
set_option maxRecDepth 100000 in
theorem rTick_any {w0 W:World} {V:Option Addr} {vc a ac b qc:Nat} {vs:List Value} {s:Md} (h:RMem w0 W V vc a ac b qc vs s) (now:Int) (hb:Bd now) (hok:MdOk {s with now:=now}):
 Calls Tryz.prog 38 #[mdV (frM V vc a ac b qc) s,.int .i64 now] W (ROff w0 W V vc a ac b qc ((srt (tillAt {s with now:=now}) (dueM {s with now:=now})).foldl (fun s x=>expireM s x.toNat) {s with now:=now})):=by
 have HT:=Lib.hid (TickSt.start hok)
 have hlen:=hok.len
 generalize(srt (tillAt {s with now:=now}) (dueM {s with now:=now})).foldl (fun s x=>expireM s x.toNat) {s with now:=now}=FIN at*
 have H:=Lib.hid h
 have HN:=Lib.hid hb
 have hlen':s.seats.length≤4096:=hlen
 clear h hb hok hlen
 unfold mdV frM
 simp only
 go_enter Tryz.func38,Tryz.ntmps38
 go_upto_region 1 with fail
 obtain⟨q,hqq⟩:∃q,W.heap.size=q:=⟨_,rfl⟩
 rw[hqq]
 refine at_world (fun X=>Below W.heap.size W X∧BoxN X q 31 (mdCells (frM V vc a ac b qc) s).toArray∧BoxN X (q+1) 31 #[.int .i64 0,.int .i64 0,.int .i64 0,.slice none 0 0,.int .i64 0,.slice none 0 0,.slice none 0 0]) (two_boxes hqq _ _ _ _) fun w1 hw1=> ?_
 have hw0s:=H.out.bw.size
 have B1:=Lib.hid hw1.1
 have K1:=Lib.hid hw1.2.1
 have J1:=Lib.hid hw1.2.2
 have H1:=Lib.hid (H.out.up hw1.1)
 have c4:=K1.out.cell 4 (.int .i64 s.now) rfl
 have f4:=K1.out.frozen 4
 have zq:=K1.out.lt
 clear hw1 H
 go_upto_region 2 with fail
 clear c4 f4 zq
 have hg4:=grownBy_set w1 q 4 (.int .i64 now)
 have hk4:BoxN (w1.setCell ⟨q,4,none⟩ (.int .i64 now)) q 31 #[.int .i64 s.ve.shards,.int .i64 s.ve.ttl,.int .i64 s.ve.session,.slice V s.ve.secs.length vc,.int .i64 now,.slice (some ⟨a,0,none⟩) s.seats.length ac,.slice (some ⟨b,0,none⟩) s.qs.length qc]:=K1.out.set 4 _
 have hr4:=H1.out.kept hg4 (Tag.of_box K1.out) (by omega) (by decide) (by decide) (by decide)
 have ho4:=(Only3.of a a b B1.out).new hg4 (by omega)
 refine at_world (fun X=>RMem w0 X V vc a ac b qc vs {s with now:=now}∧BoxN X q 31 #[.int .i64 s.ve.shards,.int .i64 s.ve.ttl,.int .i64 s.ve.session,.slice V s.ve.secs.length vc,.int .i64 now,.slice (some ⟨a,0,none⟩) s.seats.length ac,.slice (some ⟨b,0,none⟩) s.qs.length qc]∧BoxN X (q+1) 31 #[.int .i64 0,.int .i64 0,.int .i64 0,.slice none 0 0,.int .i64 0,.slice none 0 0,.slice none 0 0]∧Only3 a a b W X) ⟨⟨hr4.bw,hr4.ve,hr4.ss,hr4.qb,hr4.ql,hr4.qq,hr4.bv,HN.out⟩,hk4,J1.out.kept hg4 (by simp),ho4⟩ fun w2 hw2=> ?_
 have H2:=Lib.hid hw2.1
 have K2:=Lib.hid hw2.2.1
 have J2:=Lib.hid hw2.2.2.1
 have O2:=Lib.hid hw2.2.2.2
 have hW2:=hw2.2.2.2.size
 clear hw2 hg4 hk4 hr4 ho4 H1 K1 J1 B1
 go_wp2_with fail
 go_loopw [6,5] (fun iv v wr=> ∃i:Nat,iv=.int .i64 (i:Int)∧i≤s.seats.length∧Hid (Own intR 3 W.heap.size wr v (dueFrom now 0 (s.seats.take i)))∧Hid (RMem w0 wr V vc a ac b qc vs {s with now:=now})∧Hid (BoxN wr q 31 #[.int .i64 s.ve.shards,.int .i64 s.ve.ttl,.int .i64 s.ve.session,.slice V s.ve.secs.length vc,.int .i64 now,.slice (some ⟨a,0,none⟩) s.seats.length ac,.slice (some ⟨b,0,none⟩) s.qs.length qc])∧Hid (BoxN wr (q+1) 31 #[.int .i64 0,.int .i64 0,.int .i64 0,.slice none 0 0,.int .i64 0,.slice none 0 0,.slice none 0 0])∧Hid (Only3 a a b W wr)) (fun iv _ _=>s.seats.length-(intOf iv).toNat)
 case atStart=>exact⟨0,rfl,Nat.zero_le _,Lib.hid (Own.nil _ _ _ _),H2,K2,J2,O2⟩
 case round=>
  obtain⟨i,rfl,hi,HD,HR,HK,HJ,HO⟩:=hrel
  rename World=>wr
  clear H2 K2 J2 O2
  have c5:=HK.out.cell 5 (.slice (some ⟨a,0,none⟩) s.seats.length ac) rfl
  have zq:=HK.out.lt
  have hi0:(0:Int)≤(i:Int):=by omega
  by_cases hlt:i<s.seats.length
  case pos=>as_aux_lemma=>
   clear HT
   have t0:decide ((i:Int)<(s.seats.length:Int))=true:=decide_eq_true (by omega)
   have hi1:(i:Int)<(s.seats.length:Int):=by omega
   have ni:IntKind.i64.wrap ((i:Int)+1)=(i:Int)+1:=IntWalk.i64_in _ (by omega)
   obtain⟨d0,d1,d2,d3,d4,hf,_⟩:=HR.out.seat (i:=i) hlt
   simp only at d0 d1 d2 d3 d4
   have za:=HR.out.aB.2
   have HX:=Lib.hid (show s.seats.take (i+1)=s.seats.take i++[s.seats[i]] from List.take_succ_eq_append_getElem hlt)
   have C:=Lib.hid (fun X=>r05Passed_any s.seats[i].till now X)
   have hdl:=dueFrom_len (now:=now) (s.seats.take i) 0
   rw[List.length_take] at hdl
   generalize s.seats[i]=x at*
   obtain⟨st,ow,ti,se,ep⟩:=x
   simp only at d0 d1 d2 d3 d4
   have HDX:=Lib.hid (show dueFrom now 0 (s.seats.take (i+1))=dueFrom now 0 (s.seats.take i)++(if(passT ti now).1=true∧st=1 then[(i:Int)] else[]) by
    rw[HX.out,dueFrom_append,List.length_take,Nat.min_eq_left hi,Nat.zero_add,dueFrom_cons]
    split<;>rfl)
   generalize(passT ti now).1=ps at*
   generalize(passT ti now).2=pe at*
   clear hf d1 d3 d4
   go_wp2_with fail
   refine(C.out _).mono ?_
   rintro e w3 ⟨rfl,hb3⟩
   have H3:=Lib.hid (HR.out.up hb3)
   have K3:=Lib.hid (HK.out.later hb3)
   have J3:=Lib.hid (HJ.out.later hb3)
   have O3:=Lib.hid (HO.out.trans (Only3.of a a b hb3))
   have D3:=Lib.hid (HD.out.up hb3)
   have c5:=cell_later hb3 c5
   have d0:=cell_later hb3 d0
   have zq:q<w3.heap.size:=K3.out.lt
   have za:=H3.out.aB.2
   have hWs:=O3.out.size
   clear hb3 HR HK HJ HO HD d2 C
   by_cases hdue:ps=true∧st=1
   ·replace HDX:=Lib.hid (show dueFrom now 0 (s.seats.take (i+1))=dueFrom now 0 (s.seats.take i)++[(i:Int)] by rw[HDX.out,if_pos hdue])
    obtain⟨rfl,rfl⟩:=hdue
    go_wp2_with (at_builtin;refine wpList_append_sl _ rfl (.tmp 42) (.tmp 44) 65 rfl intR W.heap.size 3 _ 8 Tryz.underlying65 infoIm rfl (by decide) _ (dueFrom now 0 (s.seats.take i)) rfl (D3.out.up (ba _ _)) _ [(i:Int)] rfl (sl_one _ _ _ _ rfl (by unfold Bd;omega)) (by simp;omega) (by decide) (by simp[World.size_alloc];omega) (fun w' _ cs y h=>intR_flat _ _ _ _ h) ?_;intro v1 w7 hown1 hg1 hat1)
    have hd3:=D3.out.up (ba w3 (.cells #[.int .i64 (i:Int)] 3))
    have hr3:=H3.out.up (ba w3 (.cells #[.int .i64 (i:Int)] 3))
    have hg7:(w3.alloc (.cells #[.int .i64 (i:Int)] 3)).grownBy w7 u5.ownBlock:=hg1
    refine⟨⟨i+1,by go_num,by omega,Lib.hid (by rw[HDX.out];exact hown1),Lib.hid (hr3.kept_own hd3 hg7 (Nat.le_trans hw0s (Nat.le_refl _)) (by decide) (by decide) (by decide)),Lib.hid ((K3.out.alloc _).kept hg7 (fun e=>hd3.not_box (K3.out.alloc _) (by decide) e.symm)),Lib.hid ((J3.out.alloc _).kept hg7 (fun e=>hd3.not_box (J3.out.alloc _) (by decide) e.symm)),Lib.hid ((O3.out.trans (Only3.of a a b (ba _ _))).grown_own hd3 hg7)⟩,by simp[intOf];omega⟩
   ·replace HDX:=Lib.hid (show dueFrom now 0 (s.seats.take (i+1))=dueFrom now 0 (s.seats.take i) by rw[HDX.out,if_neg hdue,List.append_nil])
    cases ps with
    |false=>
     by_cases hst:st=1
     ·have t3:(st==1)=true:=by simpa using hst
      clear hdue hst
      go_wp2_with fail
      exact⟨⟨i+1,by go_num,by omega,by rw[HDX.out];exact D3,H3,K3,J3,O3⟩,by simp[intOf];omega⟩
     ·have t3:(st==1)=false:=by simpa using hst
      clear hdue hst
      go_wp2_with fail
      exact⟨⟨i+1,by go_num,by omega,by rw[HDX.out];exact D3,H3,K3,J3,O3⟩,by simp[intOf];omega⟩
    |true=>
     have hst:¬st=1:=fun e=>hdue ⟨rfl,e⟩
     have t3:(st==1)=false:=by simpa using hst
     clear hdue hst
     go_wp2_with fail
     exact⟨⟨i+1,by go_num,by omega,by rw[HDX.out];exact D3,H3,K3,J3,O3⟩,by simp[intOf];omega⟩
  obtain rfl:i=s.seats.length:=by omega
  have t0:decide ((s.seats.length:Int)<(s.seats.length:Int))=false:=by simp
  have hd:=HD.out
  rw[List.take_length] at hd
  have HD2:=Lib.hid (show Own intR 3 W.heap.size wr u5 (dueM {s with now:=now}) from hd)
  generalize tillAt {s with now:=now}=key at*
  generalize dueM {s with now:=now}=l0 at*
  clear hd HD hlt
  go_wp2_with fail
  go_loopw [5] (fun v wx=> ∃(c:Md) (l:List Int) (vs:List Value),Hid (TickSt {s with now:=now} c l key FIN)∧Hid (Own intR 3 W.heap.size wx v l)∧Hid (RMem w0 wx V vc a ac b qc vs c)∧Hid (BoxN wx q 31 #[.int .i64 s.ve.shards,.int .i64 s.ve.ttl,.int .i64 s.ve.session,.slice V s.ve.secs.length vc,.int .i64 now,.slice (some ⟨a,0,none⟩) s.seats.length ac,.slice (some ⟨b,0,none⟩) s.qs.length qc])∧Hid (BoxN wx (q+1) 31 #[.int .i64 0,.int .i64 0,.int .i64 0,.slice none 0 0,.int .i64 0,.slice none 0 0,.slice none 0 0])∧Hid (Only3 a a b W wx)) (fun v _=>lenOfV v)
  case atStart=>exact⟨_,_,_,HT,HD2,HR,HK,HJ,HO⟩
  case round=>
   obtain⟨c,l,vs,HT2,HDx,HRx,HKx,HJx,HOx⟩:=hrel
   rename World=>wx
   clear HT HD2 HR HK HJ HO c5 zq
   have hsz:=HOx.out.size
   obtain⟨Av,cap,rfl,hc1,hc2,ho⟩:=HDx.out.form
   have HDy:=Lib.hid ho
   clear HDx ho
   by_cases hne:l=[]
   case pos=>as_aux_lemma=>
    subst hne
    have hfin:=HT2.out.done
    subst hfin
    have hcell:mdCells (frM V vc a ac b qc) c=[.int .i64 s.ve.shards,.int .i64 s.ve.ttl,.int .i64 s.ve.session,.slice V s.ve.secs.length vc,.int .i64 now,.slice (some ⟨a,0,none⟩) s.seats.length ac,.slice (some ⟨b,0,none⟩) s.qs.length qc]:=by
     have h1:=HT2.out.ve
     have h2:=HT2.out.now
     have h3:=HT2.out.len
     have h4:=HT2.out.qlen
     simp only at h1 h2 h3 h4
     simp[mdCells,frM,h1,h2,h3,h4]
    have KC:=Lib.hid (show BoxN wx q 31 (mdCells (frM V vc a ac b qc) c).toArray by rw[hcell];exact HKx.out)
    have t1:decide ((0:Int)<(([]:List Int).length:Int))=false:=by simp
    clear hcell HKx HT2
    obtain⟨ms,hms⟩:∃ms:List Value,ms=mdCells (frM V vc a ac b qc) c:=⟨_,rfl⟩
    have HMS:=Lib.hid hms
    have KM:=Lib.hid (show BoxN _ q 31 ms.toArray by rw[hms];exact KC.out)
    have S1:=md_s hms
    have S1A:=md_S hms
    have L1:=md_l hms
    have O1:=md_o hms
    clear hms
    go_wp2_with (first|refine wpList_load_mid rfl 31 (.tmp 2) rfl q 0 rfl ms _ KM.out.range2 Tryz.underlying31 rfl S1.out ?_|refine wpList_store_row rfl 31 (.tmp 4) (.tmp 106) rfl (q+1) ms.toArray rfl rfl 31 _ HJx.out S1A.out L1.out.symm O1.out ?_)
    have hrow:=grownBy_setRow HJx.out ms.toArray
    refine at_world (fun Y=>RMem w0 Y V vc a ac b qc vs c∧BoxN Y (q+1) 31 ms.toArray∧Only3 a a b W Y) ⟨HRx.out.kept hrow.1 (Tag.of_box HJx.out) (by omega) (by decide) (by decide) (by decide),hrow.2,HOx.out.new hrow.1 (by omega)⟩ fun Y hY=> ?_
    have k3:=hY.2.1
    have hR:=hY.1
    have hO:=hY.2.2
    clear hY hrow
    rw[HMS.out] at k3
    have gg:=k3.x7
    clear k3
    exact bodyPost_ret (v:=mdV (frM V vc a ac b qc) c) (by simp[results,Tryz.results38,go_sem,mdV,gg]) rfl (show ROff w0 W V vc a ac b qc c _ _ from⟨vs,rfl,hR,hO⟩)
   have hpos:0<l.length:=List.length_pos_iff.2 hne
   have t1:decide ((0:Int)<(l.length:Int))=true:=decide_eq_true (by omega)
   have hl4:l.length≤4096:=by
    have h1:=HT2.out.fin
    have h2:=HT2.out.asc
    have h3:=HT2.out.ins
    have:=asc_len h2 (n:=s.seats.length) (fun y hy=>by obtain⟨k,h4,h5⟩:=h3 y hy;exact⟨k,h4,h5⟩)
    omega
   obtain⟨g,cs0,rfl,hgB,hgL,_,_,_⟩:=HDy.out.at_ (k:=0) hpos
   have HLE:=Lib.hid (show∀(j:Nat) (hj:j<l.length),∃y:Nat,l[j]=(y:Int)∧y<s.seats.length∧key (l.getD j 0)=(seatAt c y).till from fun j hj=>by
    obtain⟨y,h1,h2⟩:=HT2.out.ins _ (List.getElem_mem hj)
    refine⟨y,h1,h2, ?_⟩
    rw[List.getD_eq_getElem?_getD,List.getElem?_eq_getElem hj]
    show key l[j]=_
    rw[←HT2.out.keys _ (List.getElem_mem hj),h1]
    rfl)
   have hcl:c.seats.length=s.seats.length:=HT2.out.len
   have HST:=Lib.hid (show∀(y:Nat) (hy:y<s.seats.length) (X:World),Below wx.heap.size wx X→X.cell? ⟨a,y*5+2,none⟩=some (.int .i64 (seatAt c y).till) from fun y hy X hX=>by
    have h1:=((HRx.out.up hX).seat (i:=y) (by omega)).2.2.1
    rw[h1]
    simp[seatAt,show y<c.seats.length by omega])
   have HLI:=Lib.hid (show∀(j:Nat) (hj:j<l.length) (X:World),Below wx.heap.size wx X→X.cell? ⟨g,j,none⟩=some (.int .i64 l[j]) from fun j hj X hX=>by
    obtain⟨g',h1,_,_,h2,_⟩:=(HDy.out.up hX).atI hj
    injection h1 with h1
    injection h1 with h1
    subst h1
    exact h2)
   go_wp2_with fail
   go_loopw [10,9] (fun iv fv wi=> ∃j:Nat,iv=.int .i64 (j:Int)∧j≤l.length∧fv=.int .i64 ((pickI key l j:Nat):Int)∧Hid (Below wx.heap.size wx wi)) (fun iv _ _=>l.length-(intOf iv).toNat)
   case atStart=>exact⟨0,rfl,Nat.zero_le _,rfl,Lib.hid (Below.refl _ _)⟩
   case round=>
    obtain⟨j,rfl,hj,rfl,HB⟩:=hrel
    rename World=>wi
    have hj0:(0:Int)≤(j:Int):=by omega
    have hpl:=pickI_le key l j
    have hp0:(0:Int)≤((pickI key l j:Nat):Int):=by omega
    by_cases hlt:j<l.length
    case pos=>as_aux_lemma=>
     have t2:decide ((j:Int)<(l.length:Int))=true:=decide_eq_true (by omega)
     have hj1:(j:Int)<(l.length:Int):=by omega
     have nj:IntKind.i64.wrap ((j:Int)+1)=(j:Int)+1:=IntWalk.i64_in _ (by omega)
     have hpk:=pickI_lt key hne j hj
     have hp1:((pickI key l j:Nat):Int)<(l.length:Int):=by omega
     obtain⟨y,hy1,hy2,hy3⟩:=HLE.out j hlt
     obtain⟨z,hz1,hz2,hz3⟩:=HLE.out _ hpk
     have e1:=HLI.out j hlt wi HB.out
     have e2:=HLI.out _ hpk wi HB.out
     rw[hy1] at e1
     rw[hz1] at e2
     have e3:=HST.out y hy2 wi HB.out
     have e4:=HST.out z hz2 wi HB.out
     have HPX:=Lib.hid (show pickI key l (j+1)=if key (l.getD j 0)<key (l.getD (pickI key l j) 0) then j else pickI key l j from rfl)
     rw[hy3,hz3] at HPX
     generalize(seatAt c y).till=ty at*
     generalize(seatAt c z).till=tz at*
     have c5:=cell_later HB.out (HKx.out.cell 5 (.slice (some ⟨a,0,none⟩) s.seats.length ac) rfl)
     have zq:q<wi.heap.size:=Nat.lt_of_lt_of_le HKx.out.lt HB.out.size
     have zg:g<wi.heap.size:=Nat.lt_of_lt_of_le hgL HB.out.size
     have za:a<wi.heap.size:=Nat.lt_of_lt_of_le HRx.out.aB.2 HB.out.size
     have hy0:(0:Int)≤(y:Int):=by omega
     have hy4:(y:Int)<(s.seats.length:Int):=by omega
     have hz0:(0:Int)≤(z:Int):=by omega
     have hz4:(z:Int)<(s.seats.length:Int):=by omega
     generalize pickI key l j=f at*
     clear hy1 hz1 hy3 hz3 HLE HST HLI HT2 HDy HRx HKx HJx HOx
     by_cases htt:ty<tz
     ·have t3:decide (ty<tz)=true:=decide_eq_true htt
      rw[if_pos htt] at HPX
      clear htt
      go_upto_region 14 with fail
      go_quiet (fail)
      go_wp2_with fail
      exact⟨⟨j+1,by go_num,by omega,by rw[HPX.out],Lib.hid (bdN HB.out _)⟩,by simp[intOf];omega⟩
     ·have t3:decide (ty<tz)=false:=decide_eq_false htt
      rw[if_neg htt] at HPX
      clear htt
      go_upto_region 14 with fail
      go_quiet (fail)
      go_wp2_with fail
      exact⟨⟨j+1,by go_num,by omega,by rw[HPX.out],Lib.hid (bdN HB.out _)⟩,by simp[intOf];omega⟩
    obtain rfl:j=l.length:=by omega
    have t2:decide ((l.length:Int)<(l.length:Int))=false:=by simp
    have hpk:=pickI_lt key hne l.length (Nat.le_refl _)
    have hp1:((pickI key l l.length:Nat):Int)<(l.length:Int):=by omega
    obtain⟨i,hi1,hi2,_⟩:=HLE.out _ hpk
    have HT3:=Lib.hid (HT2.out.step hne (i:=i) hi1)
    have e1:=HLI.out _ hpk wi HB.out
    rw[hi1] at e1
    have H3:=Lib.hid (HRx.out.up HB.out)
    have K3:=Lib.hid (HKx.out.later HB.out)
    have J3:=Lib.hid (HJx.out.later HB.out)
    have D3:=Lib.hid (HDy.out.up HB.out)
    have O3:=Lib.hid (HOx.out.trans (Only3.of a a b HB.out))
    have hve:=HT2.out.ve
    have hnow:=HT2.out.now
    have hlenc:=HT2.out.len
    have hqlc:=HT2.out.qlen
    simp only at hve hnow hlenc hqlc
    have HOKC:=Lib.hid HT2.out.ok
    have HVE:=Lib.hid hve
    have HNW:=Lib.hid hnow
    have HLN:=Lib.hid hlenc
    have HQL:=Lib.hid hqlc
    have zg:g<wi.heap.size:=Nat.lt_of_lt_of_le hgL HB.out.size
    have hWi:W.heap.size≤wi.heap.size:=O3.out.size
    generalize pickI key l l.length=f at*
    clear hve hnow hqlc hi1 HLE HST HLI HT2 HDy HRx HKx HJx HOx HB hpl hgL
    go_upto_region 17 with fail
    have hf1:f+1≤l.length:=hpk
    have nf:IntKind.i64.wrap ((f:Int)+1)=(f:Int)+1:=IntWalk.i64_in _ (by omega)
    have hfc:(f:Int)≤(cap:Int):=by omega
    have hfc2:(f:Int)+1≤(l.length:Int):=by omega
    have hfc3:(0:Int)≤(f:Int)+1:=by omega
    have hlc:(l.length:Int)≤(cap:Int):=by omega
    have hS1:=Lib.hid (show Sl intR wi (.slice (some ⟨g,0,none⟩) f cap) (l.take f) from D3.out.sl.front (by omega))
    have hS2:=Lib.hid (behind_sl D3.out.sl rfl hf1)
    generalize hA:(if cap=f+1 then some ⟨g,0,none⟩ else some ⟨g,f+1,none⟩:Option Addr)=A2 at hS2
    have HA2:=Lib.hid hA
    clear hA e1
    refine wp_region_held (S:=fun _=>True) (by kernel_rfl) ?_
    have HSS:True:=trivial
    refine at_world (fun X=>RMem w0 X V vc a ac b qc vs c∧BoxN X q 31 #[.int .i64 s.ve.shards,.int .i64 s.ve.ttl,.int .i64 s.ve.session,.slice V s.ve.secs.length vc,.int .i64 now,.slice (some ⟨a,0,none⟩) s.seats.length ac,.slice (some ⟨b,0,none⟩) s.qs.length qc]∧BoxN X (q+1) 31 #[.int .i64 0,.int .i64 0,.int .i64 0,.slice none 0 0,.int .i64 0,.slice none 0 0,.slice none 0 0]∧Sl intR X (.slice (some ⟨g,0,none⟩) f cap) (l.take f)∧Sl intR X (.slice A2 (l.length-(f+1)) (cap-(f+1))) (l.drop (f+1))∧Only3 a a b W X) ⟨H3.out.up (bdd (Below.refl _ _)),K3.out,J3.out,hS1.out.up (bdd (Below.refl _ _)),hS2.out.up (bdd (Below.refl _ _)),O3.out.trans (Only3.of a a b (bdd (Below.refl _ _)))⟩ fun w6 h6=> ?_
    have hsz6:=h6.2.2.2.2.2.size
    have H6:=Lib.hid h6.1
    have K6:=Lib.hid h6.2.1
    have J6:=Lib.hid h6.2.2.1
    have S6:=Lib.hid h6.2.2.2.1
    have T6:=Lib.hid h6.2.2.2.2.1
    have O6:=Lib.hid h6.2.2.2.2.2
    clear h6 H3 K3 J3 D3 O3 hS1 hS2
    refine takeTo (i:=1) (v:=.slice (some ⟨g,0,none⟩) l.length cap) (some 80) rfl rfl (by decide+kernel) (by decide+kernel) (by decide+kernel) (fun _ _ _ h=>h) (.inl ⟨rfl,fun W hS=>by go_simp⟩) HSS ?_
    refine takeTo (i:=2) (v:=.int .i64 (f:Int)) (some 81) rfl rfl (by decide+kernel) (by decide+kernel) (by decide+kernel) (fun _ _ _ h=>h) (.inl ⟨rfl,fun W hS=>by go_simp⟩) HSS ?_
    refine takeTo (i:=3) (v:=.slice (some ⟨g,0,none⟩) f cap) (some 82) rfl rfl (by decide+kernel) (by decide+kernel) (by decide+kernel) (fun _ _ _ h=>h) (.inl ⟨rfl,fun W hS=>by go_simp⟩) HSS ?_
    refine takeTo (i:=5) (v:=.slice (some ⟨g,0,none⟩) l.length cap) (some 84) rfl rfl (by decide+kernel) (by decide+kernel) (by decide+kernel) (fun _ _ _ h=>h) (.inl ⟨rfl,fun W hS=>by go_simp⟩) HSS ?_
    refine takeTo (i:=6) (v:=.int .i64 (f:Int)) (some 85) rfl rfl (by decide+kernel) (by decide+kernel) (by decide+kernel) (fun _ _ _ h=>h) (.inl ⟨rfl,fun W hS=>by go_simp⟩) HSS ?_
    refine takeTo (i:=7) (v:=.int .i64 ((f:Int)+1)) (some 86) rfl rfl (by decide+kernel) (by decide+kernel) (by decide+kernel) (fun _ _ _ h=>h) (.inl ⟨rfl,fun W hS=>by go_simp⟩) HSS ?_
    refine takeTo (i:=8) (v:=.slice A2 (l.length-(f+1)) (cap-(f+1))) (some 87) rfl rfl (by decide+kernel) (by decide+kernel) (by decide+kernel) (fun _ _ _ h=>h) (.inl ⟨rfl,fun W hS=>by(rw[←HA2.out];by_cases h1:cap=f+1<;>go_simp)⟩) HSS ?_
    refine wpAnyH_all (rs:=[0]) (by decide+kernel) (by simp) fun j hj=> ?_
    obtain rfl:j=0:=by simpa using hj
    clear hj
    refine heldOp rfl fun K hK=> ?_
    go_wp2_with fail
    refine hK.out _ _ ⟨trivial, ?_⟩
    clear hK K
    refine wpAnyH_all (rs:=[4]) (by decide+kernel) (by simp) fun j hj=> ?_
    obtain rfl:j=4:=by simpa using hj
    clear hj
    refine heldOp rfl fun K hK=> ?_
    go_wp2_with (at_builtin;refine wpList_append_sl _ rfl (.tmp 79) (.tmp 82) 65 rfl intR w6.heap.size 3 _ 8 Tryz.underlying65 infoIm rfl (by decide) _ [] rfl (Own.empty _ _ _ (Nat.le_refl _)) _ (l.take f) rfl (S6.out.up (ba _ _)) (by simp;omega) (by decide) (by simp[World.size_alloc]) (fun w' _ cs y h=>intR_flat _ _ _ _ h) ?_;intro v1 w7 hown1 hg1 hat1;rw[List.nil_append] at hown1)
    have hb7:=Lib.hid (show Below w6.heap.size w6 w7 from(ba w6 (.cells #[] 3)).grown hg1 (by simp[World.size_alloc]) (fun z hz=>by have:some w6.heap.size=some z:=hz;injection this;omega))
    have hsz7:=hb7.out.size
    refine hK.out _ _ ⟨trivial, ?_⟩
    clear hK K hg1 hat1
    refine wpAnyH_all (rs:=[9]) (by decide+kernel) (by simp) fun j hj=> ?_
    obtain rfl:j=9:=by simpa using hj
    clear hj
    refine heldOp rfl fun K hK=> ?_
    go_wp2_with (at_builtin;refine wpList_append_sl _ rfl (.tmp 83) (.tmp 87) 65 rfl intR w6.heap.size 3 _ 8 Tryz.underlying65 infoIm rfl (by decide) _ (l.take f) rfl hown1 _ (l.drop (f+1)) rfl (T6.out.up hb7.out) (by simp;omega) (by decide) hsz7 (fun w' _ cs y h=>intR_flat _ _ _ _ h) ?_;intro v2 w8 hown2 hg2 hat2)
    have hb8:=Lib.hid (show Below w6.heap.size w6 w8 from hb7.out.grown hg2 hsz7 (fun z hz=>(hown1.lt z hz).1))
    rw[←List.eraseIdx_eq_take_drop_succ] at hown2
    refine hK.out _ _ ⟨trivial, ?_⟩
    clear hK K hg2 hat2
    refine wpAnyH_all (rs:=[10]) (by decide+kernel) (by simp) fun j hj=> ?_
    obtain rfl:j=10:=by simpa using hj
    clear hj
    refine heldOp rfl fun K hK=> ?_
    go_wp2_with fail
    refine hK.out _ _ ⟨trivial, ?_⟩
    clear hK K
    refine wpAnyH_done (by decide+kernel) ?_ _
    refine at_world (fun X=>RMem w0 X V vc a ac b qc vs c∧BoxN X q 31 #[.int .i64 s.ve.shards,.int .i64 s.ve.ttl,.int .i64 s.ve.session,.slice V s.ve.secs.length vc,.int .i64 now,.slice (some ⟨a,0,none⟩) s.seats.length ac,.slice (some ⟨b,0,none⟩) s.qs.length qc]∧BoxN X (q+1) 31 #[.int .i64 0,.int .i64 0,.int .i64 0,.slice none 0 0,.int .i64 0,.slice none 0 0,.slice none 0 0]∧Own intR 3 W.heap.size X v2 (l.eraseIdx f)∧Only3 a a b W X) ⟨H6.out.up hb8.out,K6.out.later hb8.out,J6.out.later hb8.out,hown2.mono hsz6,O6.out.trans (Only3.of a a b hb8.out)⟩ fun w9 h9=> ?_
    clear hown1 hown2 hb7 hb8 H6 K6 J6 S6 T6 O6 hsz7 hsz6
    have hsz9:=h9.2.2.2.2.size
    have H9:=Lib.hid h9.1
    have K9:=Lib.hid h9.2.1
    have J9:=Lib.hid h9.2.2.1
    have D9:=Lib.hid h9.2.2.2.1
    have O9:=Lib.hid h9.2.2.2.2
    clear h9
    have hlen2:(l.eraseIdx f).length<l.length:=by rw[List.length_eraseIdx,if_pos hpk];omega
    generalize l.eraseIdx f=l' at*
    have hic:i<c.seats.length:=by rw[hlenc];exact hi2
    obtain⟨d0,d1,d2,d3,d4,hfs,hxo⟩:=H9.out.seat hic
    have hx:seatAt c i=c.seats[i]:=by simp[seatAt,hic]
    have C:=Lib.hid (fun X=>r16Expire_any c.seats[i] now X)
    have HRX:=Lib.hid (sxExpire_ok (d:=now) hxo)
    have HEX:=Lib.hid (show expireM c i=offerM (setM c i (sxExpire c.seats[i] now).1) i by unfold expireM;rw[hx,HNW.out])
    have HOK2:=Lib.hid (show MdOk (setM c i (sxExpire c.seats[i] now).1) from HOKC.out.set i (sxCheck_expire (by rw[←hx];exact HOKC.out.seatAt i)))
    have za:=H9.out.aB.2
    clear hx hxo hfs hfc hfc2 hfc3 hlc
    generalize c.seats[i]=x at*
    generalize hr:sxExpire x now=R at*
    clear hr
    obtain⟨⟨r0,r1,r2,r3,r4⟩,re⟩:=R
    unfold sxV at C
    simp only at C HRX HEX HOK2
    have hi0:(0:Int)≤(i:Int):=by omega
    have hi1:(i:Int)<(s.seats.length:Int):=by omega
    go_upto_region 18 with fail
    have g5:=gro_cell (K9.out.cell 5 (.slice (some ⟨a,0,none⟩) s.seats.length ac) rfl)
    have s0:=gro_cell d0
    have s1:=gro_cell d1
    have s2:=gro_cell d2
    have s3:=gro_cell d3
    have s4:=gro_cell d4
    clear d0 d1 d2 d3 d4
    refine wp_region_gro_late 14 12 (by kernel_rfl) (by kernel_rfl) (fun _ _ _ _ _ h=>h) ?_
    simp only[List.take_succ_cons,List.take_zero,List.drop_succ_cons,List.drop_zero]
    repeat(go_big_quiet_step (first|(go_at_call 71;exact Calls.gro_of (C.out _))|fail))
    refine wpQuiet_nil ?_
    rintro _ ⟨pg,rfl⟩
    have hg:=gro_below w9 pg
    have H10:=Lib.hid (H9.out.up hg)
    have K10:=Lib.hid (K9.out.later hg)
    have J10:=Lib.hid (J9.out.later hg)
    have D10:=Lib.hid (D9.out.up hg)
    have O10:=Lib.hid (O9.out.trans (Only3.of a a b hg))
    clear g5 s0 s1 s2 s3 s4 hg H9 K9 J9 D9 O9
    generalize gro w9 pg=w10 at H10 K10 J10 D10 O10⊢
    obtain⟨d0,d1,d2,d3,d4,hf,_⟩:=H10.out.seat hic
    have f0:=hf (i*5)
    have f1:=hf (i*5+1)
    have f2:=hf (i*5+2)
    have f3:=hf (i*5+3)
    have f4:=hf (i*5+4)
    have za:=H10.out.aB.2
    obtain⟨hs1,hs2⟩:=H10.out.set hic HRX.out
    simp only[putAt,sxCells] at hs1 hs2
    have hk5:=K10.out.kept hs2 (fun e=>(Tag.of_box K10.out).ne (Tag.of_own H10.out.ss) (by decide) (by injection e))
    have hj5:=J10.out.kept hs2 (fun e=>(Tag.of_box J10.out).ne (Tag.of_own H10.out.ss) (by decide) (by injection e))
    have hd5:=D10.out.kept hs2 (fun k hk e=>D10.out.apart H10.out.ss (by decide) k hk (by rw[←e];rfl)) (fun cs y h=>intR_flat _ _ _ _ h)
    have ho5:=O10.out.trans (Only3.grown (g:=a) (a:=a) (b:=b) hs2 (.inl rfl))
    have hall:=And.intro hs1 (And.intro hk5 (And.intro hj5 (And.intro hd5 ho5)))
    clear hf hs1 hs2 hk5 hj5 hd5 ho5
    go_upto_region 19 with fail
    refine at_world (fun X=>RMem w0 X V vc a ac b qc vs (setM c i ⟨r0,r1,r2,r3,r4⟩)∧BoxN X q 31 #[.int .i64 s.ve.shards,.int .i64 s.ve.ttl,.int .i64 s.ve.session,.slice V s.ve.secs.length vc,.int .i64 now,.slice (some ⟨a,0,none⟩) s.seats.length ac,.slice (some ⟨b,0,none⟩) s.qs.length qc]∧BoxN X (q+1) 31 #[.int .i64 0,.int .i64 0,.int .i64 0,.slice none 0 0,.int .i64 0,.slice none 0 0,.slice none 0 0]∧Own intR 3 W.heap.size X v2 l'∧Only3 a a b W X) hall fun w11 h11=> ?_
    clear hall d0 d1 d2 d3 d4 f0 f1 f2 f3 f4 za H10 K10 J10 D10 O10
    have hsz11:=h11.2.2.2.2.size
    have H11:=Lib.hid h11.1
    have K11:=Lib.hid h11.2.1
    have J11:=Lib.hid h11.2.2.1
    have D11:=Lib.hid h11.2.2.2.1
    have O11:=Lib.hid h11.2.2.2.2
    clear h11
    have hlaid:=HOK2.out.laid i (by simpa[setM] using hic)
    have hcells:∀M:Md,M.ve=s.ve→M.now=now→M.seats.length=s.seats.length→M.qs.length=s.qs.length→mdV (frM V vc a ac b qc) M=.agg #[.int .i64 s.ve.shards,.int .i64 s.ve.ttl,.int .i64 s.ve.session,.slice V s.ve.secs.length vc,.int .i64 now,.slice (some ⟨a,0,none⟩) s.seats.length ac,.slice (some ⟨b,0,none⟩) s.qs.length qc]:=fun M h1 h2 h3 h4=>by simp[mdV,frM,h1,h2,h3,h4]
    obtain⟨e1,e2,e3,e4⟩:=offerM_same (setM c i ⟨r0,r1,r2,r3,r4⟩) i
    have C4:=Lib.hid (show Calls Tryz.prog 72 #[.agg #[.int .i64 s.ve.shards,.int .i64 s.ve.ttl,.int .i64 s.ve.session,.slice V s.ve.secs.length vc,.int .i64 now,.slice (some ⟨a,0,none⟩) s.seats.length ac,.slice (some ⟨b,0,none⟩) s.qs.length qc],.int .i64 (i:Int)] w11 fun e w'=> ∃vs',e=.returned (.agg #[.int .i64 s.ve.shards,.int .i64 s.ve.ttl,.int .i64 s.ve.session,.slice V s.ve.secs.length vc,.int .i64 now,.slice (some ⟨a,0,none⟩) s.seats.length ac,.slice (some ⟨b,0,none⟩) s.qs.length qc])∧RMem w0 w' V vc a ac b qc vs' (expireM c i)∧Only3 a a b w11 w' by
     have h1:=rOffered_any H11.out (i:=i) (by simpa[setM] using hic) hlaid.1 hlaid.2 (fun l hl=>by have:=HOK2.out.qlen l hl;omega)
     rw[hcells (setM c i ⟨r0,r1,r2,r3,r4⟩) HVE.out HNW.out (by simpa[setM] using HLN.out) HQL.out] at h1
     refine h1.mono fun e w' h2=> ?_
     obtain⟨vs',h3,h4,h5⟩:=h2
     rw[←HEX.out] at h3 h4
     rw[hcells (expireM c i) (by rw[HEX.out,e1];exact HVE.out) (by rw[HEX.out,e2];exact HNW.out) (by rw[HEX.out,e3];simpa[setM] using HLN.out) (by rw[HEX.out,e4];exact HQL.out)] at h3
     exact⟨vs',h3,h4,h5⟩)
    clear e1 e2 e3 e4 hcells hlaid HVE HNW HLN HQL HEX HOK2 HOKC HRX hlenc C
    obtain⟨ms,hms⟩:∃ms:List Value,ms=[.int .i64 s.ve.shards,.int .i64 s.ve.ttl,.int .i64 s.ve.session,.slice V s.ve.secs.length vc,.int .i64 now,.slice (some ⟨a,0,none⟩) s.seats.length ac,.slice (some ⟨b,0,none⟩) s.qs.length qc]:=⟨_,rfl⟩
    have HMS:=Lib.hid hms
    have KM:=Lib.hid (show BoxN w11 q 31 ms.toArray by rw[hms];exact K11.out)
    rw[show #[.int .i64 s.ve.shards,.int .i64 s.ve.ttl,.int .i64 s.ve.session,.slice V s.ve.secs.length vc,.int .i64 now,.slice (some ⟨a,0,none⟩) s.seats.length ac,.slice (some ⟨b,0,none⟩) s.qs.length qc]=ms.toArray by rw[hms]] at C4
    have S1:=Lib.hid (show(Tryz.prog.info? 31).map (·.size)=some ms.length by rw[hms];kernel_rfl)
    have S1A:=Lib.hid (show(Tryz.prog.info? 31).map (·.size)=some ms.toArray.size by rw[hms];kernel_rfl)
    have L1:=Lib.hid (show ms.toArray.size=7 by rw[hms];rfl)
    have O1:=Lib.hid (show ms.toArray.all (·.oneCell')=true by rw[hms];simp[Value.oneCell'])
    clear hms
    go_wp2_with (refine wpList_load_mid rfl 31 (.tmp 2) rfl q 0 rfl ms _ KM.out.range2 Tryz.underlying31 rfl S1.out ?_)
    refine C4.out.mono ?_
    rintro e w12 ⟨vs',rfl,h12,ho12⟩
    have hqa:q≠a:=fun e=>(Tag.of_box K11.out).ne (Tag.of_own H11.out.ss) (by decide) e
    have hqb:q≠b:=fun e=>(Tag.of_box K11.out).ne (Tag.of_own H11.out.qb) (by decide) e
    have hja:q+1≠a:=fun e=>(Tag.of_box J11.out).ne (Tag.of_own H11.out.ss) (by decide) e
    have hjb:q+1≠b:=fun e=>(Tag.of_box J11.out).ne (Tag.of_own H11.out.qb) (by decide) e
    have K12:=Lib.hid (KM.out.only ho12 hqa hqa hqb)
    have J12:=Lib.hid (J11.out.only ho12 hja hja hjb)
    have D12:=Lib.hid (D11.out.only3 ho12 intR_flat H11.out.ss H11.out.qb (by decide) (by decide))
    have H12:=Lib.hid h12
    have O12:=Lib.hid (O11.out.trans ho12)
    have hdiff:q≠q+1:=by omega
    clear h12 ho12 C4 H11 K11 J11 D11 O11 KM hqa hqb hja hjb
    go_wp2_with (refine wpList_store_row rfl 31 (.tmp 2) (.tmp 105) rfl q ms.toArray rfl rfl 31 _ K12.out S1A.out rfl O1.out ?_)
    have hrow:=grownBy_setRow K12.out ms.toArray
    have hsz12:=O12.out.size
    have hfin5:=Lib.hid (show BoxN (w12.setRow q ms.toArray) q 31 #[.int .i64 s.ve.shards,.int .i64 s.ve.ttl,.int .i64 s.ve.session,.slice V s.ve.secs.length vc,.int .i64 now,.slice (some ⟨a,0,none⟩) s.seats.length ac,.slice (some ⟨b,0,none⟩) s.qs.length qc] by rw[show(#[.int .i64 s.ve.shards,.int .i64 s.ve.ttl,.int .i64 s.ve.session,.slice V s.ve.secs.length vc,.int .i64 now,.slice (some ⟨a,0,none⟩) s.seats.length ac,.slice (some ⟨b,0,none⟩) s.qs.length qc]:Array Value)=ms.toArray by rw[HMS.out]];exact hrow.2)
    refine⟨?_, ?_⟩
    ·dsimp only[Act.put]
     (repeat apply Exists.intro)
     exact⟨⟨expireM c i,l',vs',HT3,Lib.hid (D12.out.kept hrow.1 (fun k hk e=>D12.out.not_box K12.out (by decide) (by rw[hk,←e])) (fun cs y h=>intR_flat _ _ _ _ h)),Lib.hid (H12.out.kept hrow.1 (Tag.of_box K12.out) (by omega) (by decide) (by decide) (by decide)),hfin5,Lib.hid (J12.out.kept hrow.1 (by simp)),Lib.hid (O12.out.new hrow.1 (by omega))⟩,rfl⟩
    ·show lenOfV v2<lenOfV (.slice (some ⟨g,0,none⟩) l.length cap)
     rw[D12.out.lenV]
     exact hlen2
end Go.Proofs.YtlckmjiioohcmaaGreatDoor

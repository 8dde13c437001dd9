/-
  Walks of adjacent's alone, asked. Conditions: as each theorem says.
  Walk of adjacent's check. Conditions: as the theorem says.
  Walk of venue.Of. Conditions: as the theorem says.
  The data of layer 19 (adjacent): runs of free seats; what venue.Of answers for a venue that Check lets by; walk of adjacent's runs. Conditions: as each theorem says.
  Walk of adjacent's runs. Conditions: as the theorem says.
-/
import Derived.Test.YtlckmjiioohcmaaGreatDoorMdN
namespace Go.Proofs.YtlckmjiioohcmaaGreatDoor
open Go.RowKit
def aloneV (n:Int):Int:=if n=1 then 1 else 0
theorem alone_any (n:Int) (w:World):Calls Tryz.prog 195 #[.int .i64 n] w fun e w'=>e=.returned (.int .i64 (aloneV n))∧w'=w:=by
 unfold aloneV
 go_enter Tryz.func195,Tryz.ntmps195
 by_cases h:n=1
 ·subst h
  go_wp2
  go_ret
  exact⟨rfl,by first|trivial|rfl⟩
 ·rw[if_neg h]
  have t:(n==1)=false:=by simpa using h
  go_wp2
  go_ret
  exact⟨rfl,by first|trivial|rfl⟩
def askedV (n:Int):Bool:=decide (1≤n∧n≤8)
theorem asked_any (n:Int) (w:World):Calls Tryz.prog 174 #[.int .i64 n] w fun e w'=>e=.returned (.bool (askedV n))∧w'=w:=by
 unfold askedV
 go_enter Tryz.func174,Tryz.ntmps174
 by_cases h:1≤n
 ·by_cases h2:n≤8
  ·rw[decide_eq_true (show 1≤n∧n≤8 from⟨h,h2⟩)]
   go_wp2
   go_ret
   exact⟨rfl,by first|trivial|rfl⟩
  ·rw[decide_eq_false (show¬(1≤n∧n≤8) from fun c=>h2 c.2)]
   have t:decide (n≤8)=false:=by simpa using h2
   go_wp2
   go_ret
   exact⟨rfl,by first|trivial|rfl⟩
 ·rw[decide_eq_false (show¬(1≤n∧n≤8) from fun c=>h c.1)]
  have t:decide (1≤n)=false:=by simpa using h
  go_wp2
  go_ret
  exact⟨rfl,by first|trivial|rfl⟩
end Go.Proofs.YtlckmjiioohcmaaGreatDoor
namespace Go.Proofs.YtlckmjiioohcmaaGreatDoor
open Go.RowKit
def adCheckM (x:Ve) (n:Nat) (sec:Int):Int:=
 if(seatsV x).2≠0 then(seatsV x).2 else if(n:Int)≠(seatsV x).1 then 6 else if sec<0∨(x.secs.length:Int)≤sec then 4 else 0
set_option maxHeartbeats 1000000 in
theorem adCheck_any (v:Value) (x:Ve) (F:Option Addr) (n fc:Nat) (sec:Int) (w:World) (hv:IsVe w v x):
 Calls Tryz.prog 173 #[v,.slice F n fc,.int .i64 sec] w fun e w'=>e=.returned (.int .i64 (adCheckM x n sec))∧Below w.heap.size w w':=by
 have C1:=Lib.hid (fun W (hb:Below w.heap.size w W)=>seats_any v x W (by obtain⟨A,c,h1,h2,h3⟩:=hv;exact⟨A,c,h1,h2.up hb,h3⟩))
 obtain⟨A,c,rfl,_,_,_,_⟩:=hv
 have hE:=Lib.hid (show adCheckM x n sec=if(seatsV x).2≠0 then(seatsV x).2 else if(n:Int)≠(seatsV x).1 then 6 else if sec<0∨(x.secs.length:Int)≤sec then 4 else 0 from rfl)
 generalize adCheckM x n sec=M at hE⊢
 generalize seatsV x=S at C1 hE
 obtain⟨sn,se⟩:=S
 simp only at C1 hE
 go_enter Tryz.func173,Tryz.ntmps173
 go_wp2_with fail
 refine(C1.out _ (ba _ _)).mono ?_
 rintro e1 w1 ⟨rfl,hb1⟩
 have u3:=cell_later hb1 (show(w.alloc (.cells #[.int .i64 x.shards,.int .i64 x.ttl,.int .i64 x.session,.slice A x.secs.length c] 24)).cell? ⟨w.heap.size,3,none⟩=some (.slice A x.secs.length c) from(BoxN.new _ _ _).cell 3 _ rfl)
 have zb:w.heap.size<w1.heap.size:=Nat.lt_of_lt_of_le (by simp[World.size_alloc]) hb1.size
 have HB:=Lib.hid (show Below w.heap.size w w1 from(ba w _).trans (hb1.mono (ba w _).size))
 clear hb1 C1
 by_cases h1:se=0
 case neg=>
  have t:(se !=0)=true:=by simpa using h1
  rw[if_pos h1] at hE
  go_wp2_with fail
  go_ret
  exact⟨by rw[hE.out];rfl,HB.out⟩
 subst h1
 rw[if_neg (by simp)] at hE
 by_cases h2:(n:Int)=sn
 case neg=>
  have t:((n:Int) !=sn)=true:=by simpa using h2
  rw[if_pos h2] at hE
  go_wp2_with fail
  go_ret
  exact⟨by rw[hE.out];rfl,HB.out⟩
 rw[if_neg (by simpa using h2)] at hE
 have t:((n:Int) !=sn)=false:=by simpa using h2
 clear h2
 by_cases h3:sec<0
 ·rw[if_pos (.inl h3)] at hE
  go_wp2_with fail
  go_ret
  exact⟨by rw[hE.out];rfl,HB.out⟩
 ·by_cases h4:(x.secs.length:Int)≤sec
  ·rw[if_pos (.inr h4)] at hE
   go_wp2_with fail
   go_ret
   exact⟨by rw[hE.out];rfl,HB.out⟩
  ·rw[if_neg (by omega)] at hE
   go_wp2_with fail
   go_ret
   exact⟨by rw[hE.out];rfl,HB.out⟩
end Go.Proofs.YtlckmjiioohcmaaGreatDoor
namespace Go.Proofs.YtlckmjiioohcmaaGreatDoor
open Go.RowKit
attribute [local go_sem] Oper.semAt_some
def ofStep (sec:Int) (s:Int×Int) (r:Rw):Int×Int:=if r.sec=sec then(if s.2=0 then r.first else s.1,wrap64 (s.2+r.many)) else s
def ofAcc (sec:Int) (l:List Rw):Int×Int:=l.foldl (ofStep sec) (0,0)
theorem ofAcc_snoc (sec:Int) (l:List Rw) (r:Rw):ofAcc sec (l++[r])=ofStep sec (ofAcc sec l) r:=by simp[ofAcc]
def ofV (x:Ve) (sec:Int):Int×Int×Int:=
 if(checkV x).2≠0 then(0,0,(checkV x).2) else if(ofAcc sec (rws x.secs 0 0)).2=0 then(0,0,4) else((ofAcc sec (rws x.secs 0 0)).1,(ofAcc sec (rws x.secs 0 0)).2,0)
set_option maxHeartbeats 4000000 in
set_option maxRecDepth 100000 in
theorem of_any (v:Value) (x:Ve) (sec:Int) (w:World) (hv:IsVe w v x):
 Calls Tryz.prog 197 #[v,.int .i64 sec] w fun e w'=>e=.returned (.tuple #[.int .i64 (ofV x sec).1,.int .i64 (ofV x sec).2.1,.int .i64 (ofV x sec).2.2])∧Below w.heap.size w w':=by
 have C1:=Lib.hid (fun W (hb:Below w.heap.size w W)=>venueCheck_any v x W (by obtain⟨A,c,h1,h2,h3⟩:=hv;exact⟨A,c,h1,h2.up hb,h3⟩))
 obtain⟨A,c,rfl,hs,_,_,_⟩:=hv
 have hE:=Lib.hid (show ofV x sec=if(checkV x).2≠0 then(0,0,(checkV x).2) else if(ofAcc sec (rws x.secs 0 0)).2=0 then(0,0,4) else((ofAcc sec (rws x.secs 0 0)).1,(ofAcc sec (rws x.secs 0 0)).2,0) from rfl)
 have hok:=Lib.hid (fun h=>checkV_ok (x:=x) h)
 generalize hcv:checkV x=E at C1 hE hok
 obtain⟨E1,E2⟩:=E
 simp only at C1 hE hok
 clear hcv
 refine(callsIn_wide (n:=6)).1 ?_
 refine callsIn_of_wp_marks Tryz.func197 rfl trivial ?_ rfl
 simp only[Tryz.ntmps197,List.size_toArray,List.length_cons,List.length_nil,Nat.reduceAdd,Nat.reduceSub,Array.replicate_succ,Array.replicate_zero,List.push_toArray,List.append_toArray,List.nil_append,List.cons_append]
 gi_wp2
 refine⟨trivial, ?_⟩
 obtain⟨W1,hW1⟩:∃W1,((((w.alloc (.cells #[.int .i64 x.shards,.int .i64 x.ttl,.int .i64 x.session,.slice A x.secs.length c] 24)).alloc (.cells #[.int .i64 sec] 3)).alloc (.cells #[.int .i64 0] 3)).alloc (.cells #[.int .i64 0] 3))=W1:=⟨_,rfl⟩
 have b2:BoxN W1 w.heap.size 24 #[.int .i64 x.shards,.int .i64 x.ttl,.int .i64 x.session,.slice A x.secs.length c]:=by
  rw[←hW1];exact(((BoxN.new w _ _).alloc _).alloc _).alloc _
 have b3:BoxN W1 (w.heap.size+1) 3 #[.int .i64 sec]:=by
  rw[←hW1];have h:=BoxN.new (w.alloc (.cells #[.int .i64 x.shards,.int .i64 x.ttl,.int .i64 x.session,.slice A x.secs.length c] 24)) 3 #[.int .i64 sec];rw[World.size_alloc] at h;exact(h.alloc _).alloc _
 have b4:BoxN W1 (w.heap.size+1+1) 3 #[.int .i64 0]:=by
  rw[←hW1];have h:=BoxN.new ((w.alloc (.cells #[.int .i64 x.shards,.int .i64 x.ttl,.int .i64 x.session,.slice A x.secs.length c] 24)).alloc (.cells #[.int .i64 sec] 3)) 3 #[.int .i64 0];simp only[World.size_alloc] at h;exact h.alloc _
 have b5:BoxN W1 (w.heap.size+1+1+1) 3 #[.int .i64 0]:=by
  rw[←hW1];have h:=BoxN.new (((w.alloc (.cells #[.int .i64 x.shards,.int .i64 x.ttl,.int .i64 x.session,.slice A x.secs.length c] 24)).alloc (.cells #[.int .i64 sec] 3)).alloc (.cells #[.int .i64 0] 3)) 3 #[.int .i64 0];simp only[World.size_alloc] at h;exact h
 have hb1:Below w.heap.size w W1:=by rw[←hW1];exact bal (bal (bal (ba _ _)))
 rw[hW1]
 clear hW1
 refine(callsIn_wide.2 (C1.out _ hb1)).mono ?_
 rintro e w2 ⟨rfl,hb2⟩
 replace b2:=b2.later hb2
 replace b3:=b3.later hb2
 replace b4:=b4.later hb2
 replace b5:=b5.later hb2
 replace hb1:Below w.heap.size w w2:=hb1.trans (hb2.mono hb1.size)
 clear hb2
 have c0:=b2.cell 0 (.int .i64 x.shards) rfl
 have c1:=b2.cell 1 (.int .i64 x.ttl) rfl
 have c2:=b2.cell 2 (.int .i64 x.session) rfl
 have c3:=b2.cell 3 (.slice A x.secs.length c) rfl
 have z5:=b5.lt
 have z2:=b2.lt
 by_cases h:E2=0
 case neg=>
  have t0:(E2 !=0)=true:=by simpa using h
  have d0:=b4.cell 0 (.int .i64 0) rfl
  have e0:=b5.cell 0 (.int .i64 0) rfl
  have fd0:=b4.frozen 0
  have fe0:=b5.frozen 0
  gi_wp2
  have b4':=(b4.set 0 (.int .i64 0)).other (B':=w.heap.size+1+1+1) (i:=0) (by omega) (.int .i64 0)
  have b5':=(b5.other (B':=w.heap.size+1+1) (i:=0) (by omega) (.int .i64 0)).set 0 (.int .i64 0)
  have g0:=b4'.cell 0 (.int .i64 0) rfl
  have g4:=b5'.cell 0 (.int .i64 0) rfl
  have hB:Below w.heap.size w ((w2.setCell ⟨w.heap.size+1+1,0,none⟩ (.int .i64 0)).setCell ⟨w.heap.size+1+1+1,0,none⟩ (.int .i64 0)):=
   (hb1.setCell (p:=⟨w.heap.size+1+1,0,none⟩) (by simp;omega) _).setCell (p:=⟨w.heap.size+1+1+1,0,none⟩) (by simp;omega) _
  exact⟨.tuple #[.int .i64 0,.int .i64 0,.int .i64 E2],by simp[results,Tryz.results197,go_sem,g0,g4],by rw[hE.out,if_pos h],hB⟩
 subst h
 gi_wp2
 refine⟨trivial, ?_⟩
 refine(rows_in _ _ trivial rfl _ _ _ _ _).mono ?_
 rintro e w3 ⟨rfl,rfl⟩
 gi_wp2
 obtain⟨hok,hsum,_⟩:=hok.out (by trivial)
 have hBn:=(BoxN.new w2 24 #[.int .i64 x.shards,.int .i64 x.ttl,.int .i64 x.session,.slice A x.secs.length c]).cell 3 (.slice A x.secs.length c) rfl
 have hbw2:Below w.heap.size w (w2.alloc (.cells #[.int .i64 x.shards,.int .i64 x.ttl,.int .i64 x.session,.slice A x.secs.length c] 24)):=bal hb1
 replace b3:=b3.alloc (.cells #[.int .i64 x.shards,.int .i64 x.ttl,.int .i64 x.session,.slice A x.secs.length c] 24)
 replace b4:=b4.alloc (.cells #[.int .i64 x.shards,.int .i64 x.ttl,.int .i64 x.session,.slice A x.secs.length c] 24)
 replace b5:=b5.alloc (.cells #[.int .i64 x.shards,.int .i64 x.ttl,.int .i64 x.session,.slice A x.secs.length c] 24)
 obtain⟨W0,hW0⟩:∃W0,w2.alloc (.cells #[.int .i64 x.shards,.int .i64 x.ttl,.int .i64 x.session,.slice A x.secs.length c] 24)=W0:=⟨_,rfl⟩
 rw[hW0] at hbw2 hBn b3 b4 b5⊢
 clear hW0 c0 c1 c2 c3 b2 hb1
 have hZ:w.heap.size≤W0.heap.size:=hbw2.size
 refine wpIn_rangeFunc_ownH rfl (by decide) (gf:=88) (lb:=#[.pointer (some ⟨w2.heap.size,0,none⟩)]) rfl trivial (enters_of Tryz.func88 (by kernel_rfl) rfl)
  (encs:=rwEnc) (Kp:=Below w.heap.size) (S:=fun ys=>ys=rws x.secs 0 0) (Sp:=fun pre=>pre<+:rws x.secs 0 0) (N:=(rws x.secs 0 0).length) (w0:=W0)
  (fun l J Jx W hW hJ _ hY h0=>rows1_in _ _ trivial rfl (by decide) l w2.heap.size w A c x.secs hs hok J Jx W hJ hY (hbw2.trans (hW.mono hZ)) (cell_later hW hBn) h0)
  belowK_t (belowK_b hZ) (Below.refl _ _) (fun _=>rfl)
  (fun pre W=>((BoxN W (w.heap.size+1) 3 #[.int .i64 sec]∧BoxN W (w.heap.size+1+1) 3 #[.int .i64 (ofAcc sec pre).1])∧BoxN W (w.heap.size+1+1+1) 3 #[.int .i64 (ofAcc sec pre).2])∧Below w.heap.size w W)
  (fun _ _ _=>False)
  (OwnFrom.and (OwnFrom.and (OwnFrom.and (_root_.Go.Own.from (boxN_own _ _ _) _) (_root_.Go.Own.from (boxN_own _ _ (fun pre=>#[.int .i64 (ofAcc sec pre).1])) _)) (_root_.Go.Own.from (boxN_own _ _ (fun pre=>#[.int .i64 (ofAcc sec pre).2])) _)) (ownFrom_below (Nat.le_refl _) hZ))
  (fun _ _ _ _ _ hs _ _=>hs)
  ⟨⟨⟨b3,b4⟩,b5⟩,hbw2⟩
  (fun y a' W=> ∃Bx,w.heap.size+1+1+1<Bx∧BoxN W Bx 113 #[.int .i64 y.sec,.int .i64 y.row,.int .i64 y.first,.int .i64 y.many]∧a'={tmps:=#[.agg #[.int .i64 x.shards,.int .i64 x.ttl,.int .i64 x.session,.slice A x.secs.length c],.int .i64 sec,.pointer (some ⟨w.heap.size,0,none⟩),.pointer (some ⟨w.heap.size+1,0,none⟩),.pointer (some ⟨w.heap.size+1+1,0,none⟩),.pointer (some ⟨w.heap.size+1+1+1,0,none⟩),.int .i64 0,.int .i64 E1,.int .i64 0,.pointer (some ⟨Bx,0,none⟩),.tuple #[.int .i64 E1,.int .i64 0],.agg #[.int .i64 x.shards,.int .i64 x.ttl,.int .i64 x.session,.slice A x.secs.length c],.tuple #[.int .i64 E1,.int .i64 0],.int .i64 E1,.int .i64 0,.int .i64 0,.bool false,undef,.agg #[.int .i64 x.shards,.int .i64 x.ttl,.int .i64 x.session,.slice A x.secs.length c],.func (.func 88) #[] #[.pointer (some ⟨w2.heap.size,0,none⟩)],.agg #[.int .i64 y.sec,.int .i64 y.row,.int .i64 y.first,.int .i64 y.many],undef,undef,undef,undef,undef,undef,undef,undef,undef,undef,undef,undef,undef,undef,undef,undef],defers:=[]})
  (fun y a' _ X Y row hs hg hr=>by obtain⟨Bx,h1,h2,h3⟩:=hs;exact⟨Bx,h1,boxN_own Bx 113 (fun(_:Unit)=>#[.int .i64 y.sec,.int .i64 y.row,.int .i64 y.first,.int .i64 y.many]) () X Y row h2 hg (fun r e=>(hr r e).2),h3⟩)
  ?assign ?body ?done ?stop
 case assign=>
  rintro l pre y W K ⟨⟨⟨b3,b4⟩,b5⟩,hB1⟩ hK
  simp only[rwEnc]
  gi_wp2
  exact hK _ _ ((KeepsOthers.alloc _ _).from _) ((Below.refl _ W).alloc hB1.size _) ⟨⟨⟨b3.alloc _,b4.alloc _⟩,b5.alloc _⟩,hB1.alloc hB1.size _⟩ ⟨W.heap.size,b5.lt,BoxN.new W 113 _,rfl⟩
 case body=>
  rintro l pre y a' W hl _ ⟨⟨⟨b3,b4⟩,b5⟩,hB1⟩ ⟨Bx,hBx,bX,rfl⟩ hlt
  have HS:=Lib.hid (ofAcc_snoc sec pre y)
  generalize ofAcc sec pre=acc at b4 b5 HS
  obtain⟨f,m⟩:=acc
  have cS:=b3.cell 0 (.int .i64 sec) rfl
  have x0:=bX.cell 0 (.int .i64 y.sec) rfl
  have x2:=bX.cell 2 (.int .i64 y.first) rfl
  have x3:=bX.cell 3 (.int .i64 y.many) rfl
  have d0:=b4.cell 0 (.int .i64 f) rfl
  have e0:=b5.cell 0 (.int .i64 m) rfl
  have fd0:=b4.frozen 0
  have fe0:=b5.frozen 0
  have z5:=b5.lt
  by_cases q1:y.sec=sec
  ·have t1:(y.sec !=sec)=false:=by simpa using q1
   by_cases q2:m=0
   ·have t2:(m==0)=true:=by simpa using q2
    have hst:=Lib.hid (show ofStep sec (f,m) y=(y.first,wrap64 (m+y.many)) by simp[ofStep,q1,q2])
    clear q1 q2
    gi_wp2
    refine⟨((KeepsOthers.setCell _ _ _).trans (KeepsOthers.setCell _ _ _)).from _, ?_,⟨⟨?_, ?_⟩, ?_⟩, ?_⟩
    ·exact((Below.refl _ W).setCell (p:=⟨w.heap.size+1+1,0,none⟩) (by simp;omega) _).setCell (p:=⟨w.heap.size+1+1+1,0,none⟩) (by simp;omega) _
    ·exact(b3.other (by omega) _).other (by omega) _
    ·rw[HS.out,hst.out]
     exact(b4.set 0 _).other (by omega) _
    ·rw[HS.out,hst.out]
     exact(b5.other (by omega) _).set 0 _
    ·exact(hB1.setCell (p:=⟨w.heap.size+1+1,0,none⟩) (by simp;omega) _).setCell (p:=⟨w.heap.size+1+1+1,0,none⟩) (by simp;omega) _
   ·have t2:(m==0)=false:=by simpa using q2
    have hst:=Lib.hid (show ofStep sec (f,m) y=(f,wrap64 (m+y.many)) by simp[ofStep,q1,q2])
    clear q1 q2
    gi_wp2
    refine⟨(KeepsOthers.setCell _ _ _).from _, ?_,⟨⟨?_, ?_⟩, ?_⟩, ?_⟩
    ·exact(Below.refl _ W).setCell (p:=⟨w.heap.size+1+1+1,0,none⟩) (by simp;omega) _
    ·exact b3.other (by omega) _
    ·rw[HS.out,hst.out]
     exact b4.other (by omega) _
    ·rw[HS.out,hst.out]
     exact b5.set 0 _
    ·exact hB1.setCell (p:=⟨w.heap.size+1+1+1,0,none⟩) (by simp;omega) _
  ·have t1:(y.sec !=sec)=true:=by simpa using q1
   have hst:=Lib.hid (show ofStep sec (f,m) y=(f,m) by simp[ofStep,q1])
   clear q1
   gi_wp2
   exact⟨(KeepsOthers.refl _).from _,Below.refl _ _,⟨⟨b3,by rw[HS.out,hst.out];exact b4⟩,by rw[HS.out,hst.out];exact b5⟩,hB1⟩
 case done=>
  rintro D zs W hD rfl ⟨⟨⟨b3,b4⟩,b5⟩,hB1⟩ hK
  generalize hacc:ofAcc sec (rws x.secs 0 0)=acc at b4 b5 hE
  obtain⟨f,m⟩:=acc
  have d0:=b4.cell 0 (.int .i64 f) rfl
  have e0:=b5.cell 0 (.int .i64 m) rfl
  have fd0:=b4.frozen 0
  have fe0:=b5.frozen 0
  have z5:=b5.lt
  clear hacc
  by_cases q:m=0
  ·have t:(m==0)=true:=by simpa using q
   have hF:=Lib.hid (show ofV x sec=(0,0,4) by rw[hE.out,if_neg (by simp),if_pos q])
   clear q
   gi_wp2
   have b4':=(b4.set 0 (.int .i64 0)).other (B':=w.heap.size+1+1+1) (i:=0) (by omega) (.int .i64 0)
   have b5':=(b5.other (B':=w.heap.size+1+1) (i:=0) (by omega) (.int .i64 0)).set 0 (.int .i64 0)
   have hKO:=(KeepsOthers.setCell W ⟨w.heap.size+1+1,0,none⟩ (.int .i64 0)).trans (KeepsOthers.setCell _ ⟨w.heap.size+1+1+1,0,none⟩ (.int .i64 0))
   have hK':=hKO.same D _ hK rfl
   have hB:=(hB1.setCell (p:=⟨w.heap.size+1+1,0,none⟩) (by simp;omega) (.int .i64 0)).setCell (p:=⟨w.heap.size+1+1+1,0,none⟩) (by simp;omega) (.int .i64 0)
   refine⟨by simp,.inl ⟨_,_,rfl,run_takeDeferred hK', ?_⟩⟩
   have g0:=cell_kept (b4'.cell 0 (.int .i64 0) rfl) (grownBy_putObj' _ D (.deferred none)) (fun r e=>by cases e;exact⟨_,hK',rfl⟩)
   have g4:=cell_kept (b5'.cell 0 (.int .i64 0) rfl) (grownBy_putObj' _ D (.deferred none)) (fun r e=>by cases e;exact⟨_,hK',rfl⟩)
   exact⟨.tuple #[.int .i64 0,.int .i64 0,.int .i64 4],by simp[results,Tryz.results197,go_sem,g0,g4],by rw[hF.out],hB.trans (belowK_b (w:=w) (Nat.le_refl _) _ D _ _ (by omega) hK' rfl rfl)⟩
  ·have t:(m==0)=false:=by simpa using q
   have hF:=Lib.hid (show ofV x sec=(f,m,0) by rw[hE.out,if_neg (by simp),if_neg q])
   clear q
   gi_wp2
   gi_region
   gi_wp2
   have b4':=((b4.set 0 (.int .i64 f)).other (B':=w.heap.size+1+1+1) (i:=0) (by omega) (.int .i64 m)).later (bdd (Below.refl _ _))
   have b5':=((b5.other (B':=w.heap.size+1+1) (i:=0) (by omega) (.int .i64 f)).set 0 (.int .i64 m)).later (bdd (Below.refl _ _))
   have hKO:=(KeepsOthers.setCell W ⟨w.heap.size+1+1,0,none⟩ (.int .i64 f)).trans (KeepsOthers.setCell _ ⟨w.heap.size+1+1+1,0,none⟩ (.int .i64 m))
   have hK':(((W.setCell ⟨w.heap.size+1+1,0,none⟩ (.int .i64 f)).setCell ⟨w.heap.size+1+1+1,0,none⟩ (.int .i64 m)).drew).heap[D]?=some (.deferred (some [])):=hKO.same D _ hK rfl
   have hB:=((hB1.setCell (p:=⟨w.heap.size+1+1,0,none⟩) (by simp;omega) (.int .i64 f)).setCell (p:=⟨w.heap.size+1+1+1,0,none⟩) (by simp;omega) (.int .i64 m)).drew
   refine⟨by simp,.inl ⟨_,_,rfl,run_takeDeferred hK', ?_⟩⟩
   have g0:=cell_kept (b4'.cell 0 (.int .i64 f) rfl) (grownBy_putObj' _ D (.deferred none)) (fun r e=>by cases e;exact⟨_,hK',rfl⟩)
   have g4:=cell_kept (b5'.cell 0 (.int .i64 m) rfl) (grownBy_putObj' _ D (.deferred none)) (fun r e=>by cases e;exact⟨_,hK',rfl⟩)
   exact⟨.tuple #[.int .i64 f,.int .i64 m,.int .i64 0],by simp[results,Tryz.results197,go_sem,g0,g4],by rw[hF.out],hB.trans (belowK_b (w:=w) (Nat.le_refl _) _ D _ _ (by omega) hK' rfl rfl)⟩
 case stop=>
  rintro D c pre W hD hpre hf
  exact hf.elim
end Go.Proofs.YtlckmjiioohcmaaGreatDoor
namespace Go.Proofs.YtlckmjiioohcmaaGreatDoor
open Go.RowKit
structure Ru where
 row:Int
 first:Int
 many:Int
deriving DecidableEq
def RuOk (r:Ru):Prop:=(0≤r.row∧r.row≤1000000)∧(0≤r.first∧r.first≤1000000)∧0≤r.many∧r.many≤1000000
def ruCells (r:Ru):List Value:=[.int .i64 r.row,.int .i64 r.first,.int .i64 r.many]
def ruR:Rep Ru where
 size:=3
 is _ cs x:=cs=ruCells x∧RuOk x
 len h:=by rw[h.1];rfl
 one h:=by rw[h.1];simp[ruCells,Value.oneCell']
 up _ h:=h
theorem ruR_flat:ruR.flat:=fun _ _ _ _ h=>h
def boR:Rep Bool where
 size:=1
 is _ cs x:=cs=[.bool x]
 len h:=by rw[h];rfl
 one h:=by rw[h];simp[Value.oneCell']
 up _ h:=h
theorem boR_flat:boR.flat:=fun _ _ _ _ h=>h
theorem Sl.atB {w:World} {A:Option Addr} {n c k:Nat} {xs:List Bool} (h:Sl boR w (.slice A n c) xs) (hk:k<xs.length):
 ∃b off,A=some ⟨b,off,.none⟩∧b<w.heap.size∧w.cell? ⟨b,off+k,.none⟩=some (.bool xs[k]):=by
 obtain⟨b,off,cs,rfl,hb,rfl,h2⟩:=h.at_ hk
 have h3:=h2 0 _ rfl
 simp only[boR,Nat.mul_one,Nat.add_zero] at h3
 exact⟨b,off,rfl,hb,h3⟩
theorem infoRu:(Tryz.prog.info? 206).map (fun i=>(i.zero,i.size,i.bytes))=some (some (.agg #[.int .i64 0,.int .i64 0,.int .i64 0]),ruR.size,24):=by kernel_rfl
theorem ru_one (w:World) (g:Nat) (r:Ru) (hg:g=w.heap.size) (hr:RuOk r):Sl ruR (w.alloc (.cells #[.int .i64 r.row,.int .i64 r.first,.int .i64 r.many] 206)) (.slice (some ⟨g,0,none⟩) 1 1) [r]:=
 (Own.lit (R:=ruR) (B:=0) (e:=206) (w:=w) (cells:=ruCells r) (xs:=[r]) hg (Nat.zero_le _) (Rep.many_one (R:=ruR) ⟨rfl,hr⟩) rfl (by simp)).sl
def runStep (row s:Int) (b:Bool) (st:List Ru×Ru):List Ru×Ru:=
 if b then(st.1,{st.2 with many:=st.2.many+1}) else(if 0<st.2.many then st.1++[st.2] else st.1,⟨row,s+1,0⟩)
def runRow (fr:List Bool) (row:Int) (f n:Nat) (out:List Ru):Nat→List Ru×Ru
 |0=>(out,⟨row,f,0⟩)
 |k+1=>runStep row ((f+k:Nat):Int) (decide (k<n)&&fr.getD (f+k) false) (runRow fr row f n out k)
def runsTo (fr:List Bool) (rows:List Int) (f:Nat):Nat→List Ru×Nat
 |0=>([],f)
 |k+1=>((runRow fr (k:Int) (runsTo fr rows f k).2 (rows.getD k 0).toNat (runsTo fr rows f k).1 ((rows.getD k 0).toNat+1)).1,(runsTo fr rows f k).2+(rows.getD k 0).toNat)
def runsM (x:Ve) (fr:List Bool) (sec:Nat):List Ru:=(runsTo fr (x.secs.getD sec ⟨⟨#[]⟩,[],0⟩).rows (upTo x.secs sec).toNat (x.secs.getD sec ⟨⟨#[]⟩,[],0⟩).rows.length).1
theorem runRow_ok (fr:List Bool) (row:Int) (f n:Nat) (out:List Ru):∀k,(runRow fr row f n out k).2.row=row∧0≤(runRow fr row f n out k).2.many∧(runRow fr row f n out k).2.many≤k∧
 (f:Int)≤(runRow fr row f n out k).2.first∧(runRow fr row f n out k).2.first≤f+k∧(runRow fr row f n out k).1.length≤out.length+k
 |0=>by simp[runRow]
 |k+1=>by
  obtain⟨h1,h2,h3,h4,h5,h6⟩:=runRow_ok fr row f n out k
  simp only[runRow,runStep]
  split
  ·exact⟨h1,by simp;omega,by simp;omega,h4,by simp;omega,by simp;omega⟩
  ·refine⟨rfl,Int.le_refl _,by simp;omega,by simp;omega,by simp;omega, ?_⟩
   dsimp only
   split
   ·simp;omega
   ·omega
theorem runsTo_ok (fr:List Bool) (rows:List Int) (f:Nat) (hr:∀n,n∈rows→1≤n∧n≤64):∀k,k≤rows.length→(runsTo fr rows f k).1.length≤65*k∧((runsTo fr rows f k).2:Int)=f+sum (rows.take k)
 |0,_=>by simp[runsTo,sum]
 |k+1,hk=>by
  obtain⟨h1,h2⟩:=runsTo_ok fr rows f hr k (by omega)
  have hlt:k<rows.length:=hk
  have hn:=hr _ (List.getElem_mem hlt)
  have hg:rows.getD k 0=rows[k]:=by simp[hlt]
  obtain⟨_,_,_,_,_,h6⟩:=runRow_ok fr (k:Int) (runsTo fr rows f k).2 (rows.getD k 0).toNat (runsTo fr rows f k).1 ((rows.getD k 0).toNat+1)
  rw[List.take_succ_eq_append_getElem hlt,sum_snoc]
  simp only[runsTo,hg] at h6⊢
  exact⟨by omega,by omega⟩
theorem ofAcc_other {sec:Int}:∀(l:List Rw) (s:Int×Int),(∀y,y∈l→y.sec≠sec)→l.foldl (ofStep sec) s=s
 |[],_,_=>rfl
 |y::l,s,h=>by
  rw[List.foldl_cons,show ofStep sec s y=s by simp[ofStep,h y (by simp)]]
  exact ofAcc_other l s fun z hz=>h z (by simp[hz])
theorem ofAcc_rows {sec:Int}:∀(l:List Int) (k f:Int) (s:Int×Int),(∀n,n∈l→1≤n∧n≤64)→1≤s.2→s.2+sum l≤1000000→(rowsOf sec l k f).foldl (ofStep sec) s=(s.1,s.2+sum l)
 |[],_,_,s,_,_,_=>by simp[rowsOf,sum]
 |n::l,k,f,s,h,h1,h2=>by
  have hn:=h n (by simp)
  have hs:0≤sum l:=sum_nonneg fun m hm=>by have:=h m (by simp[hm]);omega
  simp only[sum] at h2
  rw[rowsOf,List.foldl_cons,show ofStep sec s ⟨sec,k,f,n⟩=(s.1,s.2+n) by
   simp only[ofStep,if_true]
   rw[if_neg (by omega),show wrap64 (s.2+n)=s.2+n by unfold wrap64;omega]]
  rw[ofAcc_rows l (k+1) (f+n) (s.1,s.2+n) (fun m hm=>h m (by simp[hm])) (by simp;omega) (by simp;omega)]
  simp only[sum,Int.add_assoc]
theorem ofV_ok {x:Ve} (h:(checkV x).2=0) {sec:Nat} (hs:sec<x.secs.length):ofV x (sec:Int)=(upTo x.secs sec,sum x.secs[sec].rows,0):=by
 obtain⟨hok,hsum,_⟩:=checkV_ok h
 have hse:=secE_ok (hok.2 sec hs)
 have hup:=upTo_bd (k:=sec) (by omega) fun j hj _=>hok.2 j hj
 have hsp:x.secs=x.secs.take sec++(x.secs[sec]::x.secs.drop (sec+1)):=by
  rw[←List.drop_eq_getElem_cons hs,List.take_append_drop]
 have hA:ofAcc (sec:Int) (rws x.secs 0 0)=(upTo x.secs sec,sum x.secs[sec].rows):=by
  have e:rws x.secs 0 0=rws (x.secs.take sec) 0 0++(rowsOf sec x.secs[sec].rows 0 (upTo x.secs sec)++rws (x.secs.drop (sec+1)) (sec+1) (upTo x.secs sec+sum x.secs[sec].rows)):=by
   conv=>lhs;rw[hsp]
   rw[rws_append,rws]
   simp[upTo,Nat.min_eq_left (Nat.le_of_lt hs)]
  unfold ofAcc
  rw[e,List.foldl_append,List.foldl_append,ofAcc_other (rws (x.secs.take sec) 0 0) _ fun y hy=>by
   obtain⟨j,hj,k,hk,h1,_⟩:=mem_rws hy
   rw[List.length_take] at hj
   rw[h1]
   omega]
  obtain⟨n,l,hnl⟩:∃n l,x.secs[sec].rows=n::l:=by
   cases hr:x.secs[sec].rows with
   |nil=>rw[hr] at hse;simp at hse
   |cons n l=>exact⟨n,l,rfl⟩
  have hn:=hse.2.1 n (by rw[hnl];simp)
  have hl:∀m,m∈l→1≤m∧m≤64:=fun m hm=>hse.2.1 m (by rw[hnl];simp[hm])
  have hbd:=sum_bd (m:=64) (by decide) (l:=l) fun m hm=>by have:=hl m hm;omega
  have hlen:(l.length:Int)≤16:=by have:=hse.1;rw[hnl,List.length_cons] at this;omega
  rw[hnl,rowsOf,List.foldl_cons,show ofStep (sec:Int) (0,0) ⟨sec,0,upTo x.secs sec,n⟩=(upTo x.secs sec,n) by
   simp only[ofStep,if_true]
   rw[show wrap64 (0+n)=n by unfold wrap64;omega]]
  rw[ofAcc_rows l _ _ (upTo x.secs sec,n) hl hn.1 (by simp;omega),ofAcc_other _ _ fun y hy=>by
   obtain⟨j,hj,k,hk,h1,_⟩:=mem_rws hy
   rw[h1]
   omega]
  simp[sum]
 unfold ofV
 rw[if_neg (by simpa using h),hA]
 have hn:1≤sum x.secs[sec].rows:=by
  cases hr:x.secs[sec].rows with
  |nil=>rw[hr] at hse;simp at hse
  |cons n l=>
   have hn:=hse.2.1 n (by rw[hr];simp)
   have hl:0≤sum l:=sum_nonneg fun m hm=>by have:=hse.2.1 m (by rw[hr];simp[hm]);omega
   simp only[sum]
   omega
 rw[if_neg (by simp;omega)]
end Go.Proofs.YtlckmjiioohcmaaGreatDoor
namespace Go.Proofs.YtlckmjiioohcmaaGreatDoor
open Go.RowKit
theorem sum_take_le {l:List Int} (h:∀n,n∈l→0≤n) {k:Nat} (hk:k<l.length):sum (l.take k)+l[k]≤sum l:=by
 have h1:sum (l.drop (k+1))≥0:=sum_nonneg fun n hn=>h n (List.mem_of_mem_drop hn)
 have h2:sum l=sum (l.take (k+1))+sum (l.drop (k+1)):=by rw[←sum_append,List.take_append_drop]
 rw[List.take_succ_eq_append_getElem hk,sum_snoc] at h2
 omega
set_option maxHeartbeats 4000000 in
set_option maxRecDepth 20000 in
theorem runs_any (v:Value) (x:Ve) (F:Option Addr) (fc:Nat) (fr:List Bool) (sec:Nat) (w:World) (hv:IsVe w v x) (hF:Sl boR w (.slice F fr.length fc) fr) (hc:(checkV x).2=0) (hlen:(fr.length:Int)=sum (allRows x)) (hs:sec<x.secs.length):
 Calls Tryz.prog 176 #[v,.slice F fr.length fc,.int .i64 (sec:Int)] w fun e w'=> ∃A c,e=.returned (.slice A (runsM x fr sec).length c)∧Own ruR 206 w.heap.size w' (.slice A (runsM x fr sec).length c) (runsM x fr sec)∧Below w.heap.size w w':=by
 have C1:=Lib.hid (fun W (hb:Below w.heap.size w W)=>of_any v x (sec:Int) W (by obtain⟨A,c,h1,h2,h3⟩:=hv;exact⟨A,c,h1,h2.up hb,h3⟩))
 have HOF:=Lib.hid (ofV_ok hc hs)
 obtain⟨hok,hsum,_⟩:=checkV_ok hc
 have hse:=secE_ok (hok.2 sec hs)
 have hup:=upTo_bd (k:=sec) (by omega) fun j hj _=>hok.2 j hj
 obtain⟨A,c,rfl,hsl,_,_,_⟩:=hv
 obtain⟨b,off,A',c',rfl,hbl,e0,e1,e2,hin,_,_⟩:=hsl.atS hs
 have hM:=Lib.hid (show runsM x fr sec=(runsTo fr x.secs[sec].rows (upTo x.secs sec).toNat x.secs[sec].rows.length).1 by simp[runsM,hs])
 have hfit:upTo x.secs sec+sum x.secs[sec].rows≤fr.length:=by
  rw[hlen]
  have h1:upTo x.secs (sec+1)=upTo x.secs sec+sum x.secs[sec].rows:=upTo_succ hs
  have h2:allRows x=(x.secs.take (sec+1)).flatMap (·.rows)++(x.secs.drop (sec+1)).flatMap (·.rows):=by
   rw[←List.flatMap_append,List.take_append_drop];rfl
  have h3:0≤sum ((x.secs.drop (sec+1)).flatMap (·.rows)):=sum_nonneg fun n hn=>by
   obtain⟨s,hs',hn⟩:=List.mem_flatMap.1 hn
   obtain⟨j,hj,rfl⟩:=List.getElem_of_mem (List.mem_of_mem_drop hs')
   have:=(secE_ok (hok.2 j hj)).2.1 n hn
   omega
  rw[h2,sum_append]
  have h4:upTo x.secs (sec+1)=sum ((x.secs.take (sec+1)).flatMap (·.rows)):=rfl
  omega
 generalize runsM x fr sec=M at hM⊢
 rw[HOF.out] at C1
 obtain⟨f0,hf0⟩:∃f0:Nat,upTo x.secs sec=(f0:Int):=⟨(upTo x.secs sec).toNat,by omega⟩
 rw[hf0] at C1 hM hfit hup
 simp only[Int.toNat_natCast] at hM
 generalize x.secs[sec].rows=rows at*
 generalize htot:sum rows=total at*
 have HTOT:=Lib.hid htot
 clear htot
 generalize x.secs[sec].name=nm at*
 generalize x.secs[sec].queue=qu at*
 have hlen4:fr.length≤4096:=by omega
 have hs0:(0:Int)≤(sec:Int):=by omega
 have hs1:(sec:Int)<(x.secs.length:Int):=by omega
 have HSE:=Lib.hid hse
 have HIN:=Lib.hid hin
 have HF:=Lib.hid hF
 clear HOF hok hsum hse hc hlen hin hF
 go_enter Tryz.func176,Tryz.ntmps176
 go_wp2_with fail
 refine(C1.out _ (ba _ _)).mono ?_
 rintro e w1 ⟨rfl,hb1⟩
 have HB1:=Lib.hid (show Below w.heap.size w w1 from(ba w _).trans (hb1.mono (ba w _).size))
 have P1:=Lib.hid ((BoxN.new w 24 #[.int .i64 x.shards,.int .i64 x.ttl,.int .i64 x.session,.slice (some ⟨b,off,none⟩) x.secs.length c]).later hb1)
 clear hb1 C1
 have z1:=P1.out.lt
 have u3:=P1.out.cell 3 (.slice (some ⟨b,off,none⟩) x.secs.length c) rfl
 have v1:=cell_later HB1.out e1
 go_wp2_with fail
 clear u3 v1 e0 e1 e2 z1 hs0 hs1 P1
 have hrl:=HSE.out.1
 go_loopw [29,7,8] (fun i v f wr=> ∃k:Nat,i=.int .i64 (k:Int)∧k≤rows.length∧f=.int .i64 (((runsTo fr rows f0 k).2:Nat):Int)∧Hid (Own ruR 206 w.heap.size wr v (runsTo fr rows f0 k).1∧Below w.heap.size w wr)) (fun i _ _ _=>rows.length-(intOf i).toNat)
 case atStart=>
  exact⟨0,rfl,Nat.zero_le _,rfl,Own.nil _ _ _ _,HB1.out⟩
 case round=>
  obtain⟨k,rfl,hk,rfl,hr⟩:=hrel
  have HR:=Lib.hid hr
  clear hr
  obtain⟨hl1,hf1⟩:=runsTo_ok fr rows f0 HSE.out.2.1 k hk
  by_cases hlt:k<rows.length
  ·have ht:decide ((k:Int)<(rows.length:Int))=true:=by simp;omega
   have hn:=HSE.out.2.1 _ (List.getElem_mem hlt)
   have hk0:(0:Int)≤(k:Int):=by omega
   have hk1:(k:Int)<(rows.length:Int):=by omega
   have nk:IntKind.i64.wrap ((k:Int)+1)=(k:Int)+1:=IntWalk.i64_in _ (by omega)
   obtain⟨b2,off2,rfl,hbl2,r0,_⟩:=(HIN.out.up HR.out.2).atI hlt
   have hst:=sum_take_le (fun n hn=>by have:=HSE.out.2.1 n hn;omega) hlt
   rw[HTOT.out] at hst
   have HX:=Lib.hid (show runsTo fr rows f0 (k+1)=((runRow fr (k:Int) (runsTo fr rows f0 k).2 (rows.getD k 0).toNat (runsTo fr rows f0 k).1 ((rows.getD k 0).toNat+1)).1,(runsTo fr rows f0 k).2+(rows.getD k 0).toNat) from rfl)
   have hgd:rows.getD k 0=rows[k]:=by simp[hlt]
   rw[hgd] at HX
   clear hgd
   generalize rows[k]=n at*
   generalize sum (rows.take k)=st at*
   obtain⟨n,rfl⟩:∃m:Nat,n=(m:Int):=⟨n.toNat,by omega⟩
   simp only[Int.toNat_natCast] at HX
   have HR':=HR
   generalize hS':runsTo fr rows f0 (k+1)=S' at HX⊢
   replace hS':=Lib.hid hS'
   generalize runsTo fr rows f0 k=S at HX HR HR' hl1 hf1⊢
   obtain⟨out,fn⟩:=S
   simp only at HX HR hl1 hf1
   clear HR' hlt
   have hfn:fn+n≤fr.length:=by omega
   clear hst hf1
   go_upto_region 5 with fail
   go_wp2_with fail
   have HF2:=Lib.hid (And.intro (HR.out.1.up (ba wr (.cells #[.int .i64 (k:Int),.int .i64 (fn:Int),.int .i64 0] 206))) (And.intro (bal (o:=.cells #[.int .i64 (k:Int),.int .i64 (fn:Int),.int .i64 0] 206) HR.out.2) (And.intro (BoxN.new wr 206 #[.int .i64 (k:Int),.int .i64 (fn:Int),.int .i64 0]) (show∀z,u7.ownBlock=some z→z≠wr.heap.size from fun z hz=>by have:=HR.out.1.lt z hz;omega))))
   have hqw:w.heap.size≤wr.heap.size:=HR.out.2.size
   clear r0 HR
   generalize wr.heap.size=q at HF2 hqw⊢
   generalize wr.alloc (.cells #[.int .i64 (k:Int),.int .i64 (fn:Int),.int .i64 0] 206)=w2 at HF2⊢
   go_loopw [7,14] (fun v s wi=> ∃j:Nat,s=.int .i64 (j:Int)∧fn≤j∧j≤fn+n+1∧Hid (Own ruR 206 w.heap.size wi v (runRow fr (k:Int) fn n out (j-fn)).1∧Below w.heap.size w wi∧BoxN wi q 206 #[.int .i64 (k:Int),.int .i64 (runRow fr (k:Int) fn n out (j-fn)).2.first,.int .i64 (runRow fr (k:Int) fn n out (j-fn)).2.many]∧∀z,v.ownBlock=some z→z≠q)) (fun _ s _=>fn+n+1-(intOf s).toNat)
   case atStart=>
    refine⟨fn,rfl,Nat.le_refl _,by omega, ?_⟩
    rw[Nat.sub_self]
    exact HF2.out
   case round=>
    obtain⟨j,rfl,hj1,hj2,hr⟩:=hrel
    have HRI:=Lib.hid hr
    clear hr
    obtain⟨hr1,hr2,hr3,hr4,hr5,hr6⟩:=runRow_ok fr (k:Int) fn n out (j-fn)
    have nj:IntKind.i64.wrap ((j:Int)+1)=(j:Int)+1:=IntWalk.i64_in _ (by omega)
    by_cases hle:j≤fn+n
    ·have t0:decide ((j:Int)≤(fn:Int)+(n:Int))=true:=by simp;omega
     have HXR:=Lib.hid (show runRow fr (k:Int) fn n out (j-fn+1)=runStep (k:Int) (j:Int) (decide (j<fn+n)&&fr.getD j false) (runRow fr (k:Int) fn n out (j-fn)) by
      rw[runRow,show fn+(j-fn)=j by omega,show decide (j-fn<n)=decide (j<fn+n) by simp;omega])
     rw[show fn+n+1=fn+n+1 from rfl] at hj2
     generalize hS2:runRow fr (k:Int) fn n out (j-fn+1)=S2 at HXR⊢
     generalize runRow fr (k:Int) fn n out (j-fn)=R at HXR HRI hr1 hr2 hr3 hr4 hr5 hr6
     obtain⟨ro,⟨rw',ff,m⟩⟩:=R
     simp only at HXR HRI hr1 hr2 hr3 hr4 hr5 hr6
     have HS2:=Lib.hid hS2
     clear hS2
     have c0:=HRI.out.2.2.1.cell 0 _ rfl
     have c1:=HRI.out.2.2.1.cell 1 _ rfl
     have c2:=HRI.out.2.2.1.cell 2 _ rfl
     have fz0:=HRI.out.2.2.1.frozen 0
     have fz1:=HRI.out.2.2.1.frozen 1
     have fz2:=HRI.out.2.2.1.frozen 2
     have zq:=HRI.out.2.2.1.lt
     by_cases hlt2:j<fn+n
     ·have hjf:j<fr.length:=by omega
      obtain⟨b3,off3,rfl,hbl3,g0⟩:=(HF.out.up HRI.out.2.1).atB hjf
      have t1:decide ((j:Int)<(fn:Int)+(n:Int))=true:=by simp;omega
      have hj0:(0:Int)≤(j:Int):=by omega
      have hj3:(j:Int)<(fr.length:Int):=by omega
      have hgd:fr.getD j false=fr[j]:=by simp[hjf]
      rw[hgd,decide_eq_true hlt2,Bool.true_and] at HXR
      clear hgd
      generalize fr[j]=bb at HXR g0
      cases bb with
      |true=>
       have HX2:=Lib.hid (show S2=(ro,⟨(k:Int),ff,m+1⟩) by rw[HXR.out];simp[runStep,hr1])
       go_wp2_with fail
       refine⟨⟨j+1,by go_num,by omega,by omega, ?_⟩,by simp[intOf];omega⟩
       rw[show j+1-fn=j-fn+1 by omega,HS2.out,HX2.out]
       have hg:=grownBy_set wr q 2 (.int .i64 (m+1))
       refine⟨HRI.out.1.kept hg (fun z hz e=>HRI.out.2.2.2 z hz (by injection e with e;exact e.symm)) (fun cs y h=>h),HRI.out.2.1.grown hg HRI.out.2.1.size (fun z hz=>by injection hz with hz;omega), ?_,HRI.out.2.2.2⟩
       have h3:=HRI.out.2.2.1.set 2 (.int .i64 (m+1))
       simpa using h3
      |false=>
       by_cases hm:0<m
       ·--a run ends
        have t2:decide (0<m)=true:=by simpa using hm
        have HX2:=Lib.hid (show S2=(ro++[⟨(k:Int),ff,m⟩],⟨(k:Int),(j:Int)+1,0⟩) by rw[HXR.out];simp[runStep,hm,hr1])
        have hro:RuOk ⟨(k:Int),ff,m⟩:=⟨⟨by simp,by simp;omega⟩,⟨by simp;omega,by simp;omega⟩,by simp;omega,by simp;omega⟩
        go_wp2_with (at_builtin;refine wpList_append_sl _ rfl (.tmp 63) (.tmp 65) 211 rfl ruR w.heap.size 206 _ 24 Tryz.underlying211 infoRu rfl (by decide) _ ro rfl (HRI.out.1.up (ba _ _)) _ [⟨(k:Int),ff,m⟩] rfl (ru_one _ _ ⟨(k:Int),ff,m⟩ rfl hro) (by simp;omega) (by decide) (by have:=HRI.out.2.1.size;simp[World.size_alloc];omega) (fun w' _ cs y h=>ruR_flat _ _ _ _ h) ?_;intro v1 w7 hown1 hg1 hat1;have B7:=Lib.hid ((HRI.out.2.2.1.alloc (.cells #[.int .i64 (k:Int),.int .i64 ff,.int .i64 m] 206)).kept hg1 (fun e=>HRI.out.2.2.2 q e.symm rfl));have y0:=B7.out.cell 0 _ rfl;have y1:=B7.out.cell 1 _ rfl;have y2:=B7.out.cell 2 _ rfl;have yf0:=B7.out.frozen 0;have yf1:=B7.out.frozen 1;have yf2:=B7.out.frozen 2;have yz:=B7.out.lt;clear c0 c1 c2 fz0 fz1 fz2 zq)
        refine⟨⟨j+1,by go_num,by omega,by omega, ?_⟩,by simp[intOf];omega⟩
        rw[show j+1-fn=j-fn+1 by omega,HS2.out,HX2.out]
        have hqq:v1.ownBlock≠some q:=by
         intro e
         rcases hat1 with h|h
         ·exact HRI.out.2.2.2 q (h.symm.trans e) rfl
         ·rw[h] at e;injection e with e;have:=HRI.out.2.2.1.lt;simp[World.size_alloc] at e;omega
        have hb7:Below w.heap.size w w7:=(bal (o:=.cells #[.int .i64 (k:Int),.int .i64 ff,.int .i64 m] 206) HRI.out.2.1).grown hg1 (by have:=HRI.out.2.1.size;simp[World.size_alloc];omega) (fun z hz=>(HRI.out.1.lt z hz).1)
        have hg:=grownBy_putAt [.int .i64 (k:Int),.int .i64 ((j:Int)+1),.int .i64 0] w7 q 0
        refine⟨hown1.kept hg (fun z hz e=>hqq (by rw[hz];exact e.symm)) (fun cs y h=>h),hb7.grown hg hb7.size (fun z hz=>by injection hz with hz;omega), ?_,fun z hz e=>hqq (by rw[hz,e])⟩
        have h3:=((B7.out.set 0 (.int .i64 (k:Int))).set 1 (.int .i64 ((j:Int)+1))).set 2 (.int .i64 0)
        simpa using h3
       ·--none
        have t2:decide (0<m)=false:=by simpa using hm
        have HX2:=Lib.hid (show S2=(ro,⟨(k:Int),(j:Int)+1,0⟩) by rw[HXR.out];simp[runStep,hm])
        go_wp2_with fail
        refine⟨⟨j+1,by go_num,by omega,by omega, ?_⟩,by simp[intOf];omega⟩
        rw[show j+1-fn=j-fn+1 by omega,HS2.out,HX2.out]
        have hg:=grownBy_putAt [.int .i64 (k:Int),.int .i64 ((j:Int)+1),.int .i64 0] wr q 0
        refine⟨HRI.out.1.kept hg (fun z hz e=>HRI.out.2.2.2 z hz (by injection e with e;exact e.symm)) (fun cs y h=>h),HRI.out.2.1.grown hg HRI.out.2.1.size (fun z hz=>by injection hz with hz;omega), ?_,HRI.out.2.2.2⟩
        have h3:=((HRI.out.2.2.1.set 0 (.int .i64 (k:Int))).set 1 (.int .i64 ((j:Int)+1))).set 2 (.int .i64 0)
        simpa using h3
     ·obtain rfl:j=fn+n:=by omega
      have t1:decide (((fn+n:Nat):Int)<(fn:Int)+(n:Int))=false:=by simp
      rw[decide_eq_false hlt2,Bool.false_and] at HXR
      by_cases hm:0<m
      ·--a run ends
       have t2:decide (0<m)=true:=by simpa using hm
       have HX2:=Lib.hid (show S2=(ro++[⟨(k:Int),ff,m⟩],⟨(k:Int),((fn+n:Nat):Int)+1,0⟩) by rw[HXR.out];simp[runStep,hm,hr1])
       have hro:RuOk ⟨(k:Int),ff,m⟩:=⟨⟨by simp,by simp;omega⟩,⟨by simp;omega,by simp;omega⟩,by simp;omega,by simp;omega⟩
       go_wp2_with (at_builtin;refine wpList_append_sl _ rfl (.tmp 63) (.tmp 65) 211 rfl ruR w.heap.size 206 _ 24 Tryz.underlying211 infoRu rfl (by decide) _ ro rfl (HRI.out.1.up (ba _ _)) _ [⟨(k:Int),ff,m⟩] rfl (ru_one _ _ ⟨(k:Int),ff,m⟩ rfl hro) (by simp;omega) (by decide) (by have:=HRI.out.2.1.size;simp[World.size_alloc];omega) (fun w' _ cs y h=>ruR_flat _ _ _ _ h) ?_;intro v1 w7 hown1 hg1 hat1;have B7:=Lib.hid ((HRI.out.2.2.1.alloc (.cells #[.int .i64 (k:Int),.int .i64 ff,.int .i64 m] 206)).kept hg1 (fun e=>HRI.out.2.2.2 q e.symm rfl));have y0:=B7.out.cell 0 _ rfl;have y1:=B7.out.cell 1 _ rfl;have y2:=B7.out.cell 2 _ rfl;have yf0:=B7.out.frozen 0;have yf1:=B7.out.frozen 1;have yf2:=B7.out.frozen 2;have yz:=B7.out.lt;clear c0 c1 c2 fz0 fz1 fz2 zq)
       refine⟨⟨fn+n+1,by go_num,by omega,by omega, ?_⟩,by simp[intOf];omega⟩
       rw[show fn+n+1-fn=fn+n-fn+1 by omega,HS2.out,HX2.out]
       have hqq:v1.ownBlock≠some q:=by
        intro e
        rcases hat1 with h|h
        ·exact HRI.out.2.2.2 q (h.symm.trans e) rfl
        ·rw[h] at e;injection e with e;have:=HRI.out.2.2.1.lt;simp[World.size_alloc] at e;omega
       have hb7:Below w.heap.size w w7:=(bal (o:=.cells #[.int .i64 (k:Int),.int .i64 ff,.int .i64 m] 206) HRI.out.2.1).grown hg1 (by have:=HRI.out.2.1.size;simp[World.size_alloc];omega) (fun z hz=>(HRI.out.1.lt z hz).1)
       have hg:=grownBy_putAt [.int .i64 (k:Int),.int .i64 (((fn+n:Nat):Int)+1),.int .i64 0] w7 q 0
       refine⟨hown1.kept hg (fun z hz e=>hqq (by rw[hz];exact e.symm)) (fun cs y h=>h),hb7.grown hg hb7.size (fun z hz=>by injection hz with hz;omega), ?_,fun z hz e=>hqq (by rw[hz,e])⟩
       have h3:=((B7.out.set 0 (.int .i64 (k:Int))).set 1 (.int .i64 (((fn+n:Nat):Int)+1))).set 2 (.int .i64 0)
       simpa using h3
      ·--none
       have t2:decide (0<m)=false:=by simpa using hm
       have HX2:=Lib.hid (show S2=(ro,⟨(k:Int),((fn+n:Nat):Int)+1,0⟩) by rw[HXR.out];simp[runStep,hm])
       go_wp2_with fail
       refine⟨⟨fn+n+1,by go_num,by omega,by omega, ?_⟩,by simp[intOf];omega⟩
       rw[show fn+n+1-fn=fn+n-fn+1 by omega,HS2.out,HX2.out]
       have hg:=grownBy_putAt [.int .i64 (k:Int),.int .i64 (((fn+n:Nat):Int)+1),.int .i64 0] wr q 0
       refine⟨HRI.out.1.kept hg (fun z hz e=>HRI.out.2.2.2 z hz (by injection e with e;exact e.symm)) (fun cs y h=>h),HRI.out.2.1.grown hg HRI.out.2.1.size (fun z hz=>by injection hz with hz;omega), ?_,HRI.out.2.2.2⟩
       have h3:=((HRI.out.2.2.1.set 0 (.int .i64 (k:Int))).set 1 (.int .i64 (((fn+n:Nat):Int)+1))).set 2 (.int .i64 0)
       simpa using h3
    ·obtain rfl:j=fn+n+1:=by omega
     have t0:decide (((fn+n+1:Nat):Int)≤(fn:Int)+(n:Int))=false:=by simp;omega
     have HE:=Lib.hid HRI.out
     rw[show fn+n+1-fn=n+1 by omega] at HE
     clear HRI
     go_wp2_with fail
     refine⟨⟨k+1,by go_num,by omega, ?_, ?_,HE.out.2.1⟩,by simp[intOf];omega⟩
     ·rw[hS'.out,HX.out];simp
     ·rw[hS'.out,HX.out];exact HE.out.1
  ·obtain rfl:k=rows.length:=by omega
   have ht:decide ((rows.length:Int)<(rows.length:Int))=false:=by simp
   rw[←hM.out] at HR
   go_wp2_with fail
   obtain⟨A,cc,rfl,_,_,_⟩:=HR.out.1.sl
   go_ret
   exact⟨A,cc,rfl,HR.out.1,HR.out.2⟩
end Go.Proofs.YtlckmjiioohcmaaGreatDoor

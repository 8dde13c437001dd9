/-
  Walk of the law AuditNeeded. Conditions: the pinned table lies where it was laid.
-/
import Derived.Test.YtlckmjiioohcmaaGreatDoorNdB
namespace Go.Proofs.YtlckmjiioohcmaaGreatDoor
open Go.RowKit
theorem u8_of_wf {x:Int} (h:(Lit.int .u8 x).wf=true):0≤x∧x≤255:=by
 simp[Lit.wf,IntKind.min,IntKind.max,IntKind.signed,IntKind.bits] at h
 exact⟨by omega,by omega⟩
theorem rec_at {x:Ve} {l:List (MOp×MRp)} (h:GoodRec x l) {i:Nat} (hi:i<l.length):Aok (runA (newA x).1 (l.take i))∧(runA (newA x).1 (l.take i)).ve=x∧(l[i].2.err=0→Done (runA (newA x).1 (l.take i)) l[i].1 l[i].2):=by
 obtain⟨g1,g2⟩:=h.step i hi
 have hki:=readA_kind.1 g2
 rw[readA_in hki] at g1
 dsimp only at g1
 have hok:Aok (runA (newA x).1 (l.take i)):=by
  have:∀(l:List (MOp×MRp)) (s:Au),Aok s→Aok (runA s l):=by
   intro l
   induction l with
   |nil=>intro s h;exact h
   |cons p l ih=>intro s h;exact ih _ (read_ok h)
  exact this _ _ (new_ok h.new)
 refine⟨hok, ?_,fun he=>⟨hok,more_zero g1,he,(broken_zero g1).2 he⟩⟩
 have:∀(l:List (MOp×MRp)) (s:Au),(runA s l).ve=s.ve:=by
  intro l
  induction l with
  |nil=>intro s;rfl
  |cons p l ih=>intro s;exact(ih _).trans (read_ve _ _ _)
 rw[this]
 have:=h.new
 unfold newA at this⊢
 split at this
 ·rename_i h9;exact absurd this h9
 ·rename_i h9;rw[if_neg h9]
theorem timeM_bd {l:List (MOp×MRp)} (hok:∀p,p∈l→OpOk p.1):∀n,Bd (timeM l n):=by
 intro n
 unfold timeM
 have:∀(m:List (MOp×MRp)),(∀p,p∈m→OpOk p.1)→∀t,Bd t→Bd (m.foldl timeStep t):=by
  intro m
  induction m with
  |nil=>intro _ t ht;exact ht
  |cons p m ih=>
   intro hm t ht
   refine ih (fun q hq=>hm q (List.mem_cons_of_mem _ hq)) _ ?_
   unfold timeStep
   split
   ·exact(hm p List.mem_cons_self).2.2.2.2.2.2.2.2
   ·exact ht
 exact this _ (fun p hp=>hok p (List.mem_of_mem_take hp)) 0 (by simp[Bd])
theorem rec_bounds {x:Ve} {l:List (MOp×MRp)} (h:GoodRec x l) (hok:∀p,p∈l→OpOk p.1∧RpOk p.2) {i:Nat} (hi:i<l.length):
 (l[i].2.err=0→l[i].1.kind=3→Bd (l[i].2.n+1))∧(l[i].2.err=0→l[i].1.kind=1∨l[i].1.kind=2∨l[i].1.kind=3→Bd (l[i].2.deadline-1))∧(0<timeM l i→Bd (timeM l i-1))∧(0≤l[i].1.section_→l[i].1.section_<x.secs.length→Bd (queueOf x l[i].1.section_.toNat+1)):=by
 obtain⟨ha,hve,hd⟩:=rec_at h hi
 obtain⟨-,hr⟩:=hok _ (List.getElem_mem hi)
 refine⟨fun he hk=> ?_,fun he hk=> ?_,fun ht=> ?_,fun h0 h1=> ?_⟩
 ·have h2:=(hd he).rule 2 (by omega)
  simp[ruleA,lostA,isB,hk] at h2
  unfold Bd
  omega
 ·have h4:=(hd he).rule 4 (by omega)
  have hb:=hr.2.2.2.1
  have:0≤l[i].2.deadline:=by
   rcases hk with hk|hk|hk<;>
   ·simp[ruleA,lateA,isB,hk] at h4
    rw[h4]
    exact addT_nonneg _ _
  unfold Bd at hb⊢
  omega
 ·have:=timeM_bd (fun p hp=>(hok p hp).1) i
  unfold Bd at this⊢
  omega
 ·have hq:=ha.queue l[i].1.section_.toNat
  have hq0:0≤queueOf x l[i].1.section_.toNat:=by
   have hlt:l[i].1.section_.toNat<x.secs.length:=by omega
   have hc:=ha.hc
   rw[hve] at hc
   rw[queue_at hlt]
   exact(secE_ok ((checkV_ok hc).1.2 _ hlt)).2.2.1
  rw[hve] at hq
  unfold Bd
  omega
set_option maxRecDepth 20000 in
set_option maxHeartbeats 8000000 in
theorem lawNeeded_any {w:World} {V:Option Addr} {vc:Nat} {x:Ve} (hv:Sl secR w (.slice V x.secs.length vc) x.secs) (hb1:Bd x.shards) (hb2:Bd x.ttl) (hb3:Bd x.session) {A:Option Addr} {c:Nat} {ops:List MOp} (ho:Sl opR w (.slice A ops.length c) ops) {r0:Int} (hr0:0≤r0∧r0≤255) (hu:UsesAt w):
 Calls Tryz.prog 5 #[.agg #[.int .i64 x.shards,.int .i64 x.ttl,.int .i64 x.session,.slice V x.secs.length vc],.slice A ops.length c,.int .u8 r0] w fun e w'=>e=.returned (.bool true)∧Below w.heap.size w w':=by
 have hcap:=ho.cap
 have hops:∀op,op∈ops→OpOk op:=fun op hop=>by
  obtain⟨j,hj,rfl⟩:=List.getElem_of_mem hop
  obtain⟨_,_,_,_,_,⟨_,h⟩,_⟩:=ho.at_ hj
  exact h
 have CF:=Lib.hid (fun W (hb:Below w.heap.size w W)=>far_any (hv.up hb))
 have CY:=Lib.hid (fun W (hb:Below w.heap.size w W) (hl:ops.length≤1000)=>played_any (hv.up hb) hb1 hb2 hb3 (ho.up hb) hl (hu.up hb hu.1))
 have CC:=Lib.hid (fun(l:List (MOp×MRp)) (L:Option Addr) (lc:Nat) W (hb:Below w.heap.size w W) (hl:Sl stR W (.slice L l.length lc) l)=>auCheck_any (hv.up hb) hb1 hb2 hb3 hl)
 have CS:=Lib.hid (fun W (hb:Below w.heap.size w W)=>hv.up hb)
 have HG:=Lib.hid (fun h (hl:ops.length≤900)=>rec_goodRec (x:=x) h hops hl)
 unfold FarPost at CF
 unfold PlayedPost at CY
 unfold CheckPost at CC
 clear hv ho hu hops
 go_enter Tryz.func5,Tryz.ntmps5
 go_upto_region 1 with fail
 refine at_world (fun X=>Below w.heap.size w X∧BoxN X w.heap.size 24 #[.int .i64 x.shards,.int .i64 x.ttl,.int .i64 x.session,.slice V x.secs.length vc]) ⟨ba _ _,BoxN.new _ _ _⟩ fun w0 hw0=> ?_
 have B0:=Lib.hid hw0.1
 have K0:=Lib.hid hw0.2
 clear hw0
 obtain⟨a0,-,a1,-,a2,-,a3,-,z0⟩:=K0.out.x4
 go_cut [23] from 17 to 23 (fun v W=> ∃tb:Bool,v=.bool tb∧Hid (tb=false→ops.length≤100)∧Below w0.heap.size w0 W)
 case first=>as_aux_lemma=>
  go_wp2_with fail
  refine(CF.out _ B0.out).mono ?_
  rintro e w1 ⟨b,rfl,hb⟩
  have HB:=Lib.hid hb
  clear hb
  cases b
  case true=>
   go_wp2_with fail
   go_meet
   exact⟨_,rfl,Lib.hid (fun h=>by cases h),HB.out⟩
  by_cases h1:100<ops.length
  case neg=>
   have t1:decide ((100:Int)<(ops.length:Int))=false:=decide_eq_false (by omega)
   have t1':decide (100<ops.length)=false:=decide_eq_false (by omega)
   have H1:=Lib.hid (show ops.length≤100 by omega)
   clear h1
   go_wp2_with fail
   go_meet
   exact⟨_,rfl,Lib.hid (fun _=>H1.out),HB.out⟩
  have t1:decide ((100:Int)<(ops.length:Int))=true:=decide_eq_true (by omega)
  have t1':decide (100<ops.length)=true:=decide_eq_true (by omega)
  go_wp2_with fail
  go_meet
  exact⟨_,rfl,Lib.hid (fun h=>by cases h),HB.out⟩
 case rest=>
 obtain⟨tb,rfl,HTB,hb⟩:=hcut
 rename World=>w1
 have B1:=Lib.hid (B0.out.trans (hb.mono B0.out.size))
 have K1:=Lib.hid (K0.out.later hb)
 clear hb a0 a1 a2 a3 z0 K0 B0 CF
 obtain⟨a0,-,a1,-,a2,-,a3,-,z0⟩:=K1.out.x4
 cases tb
 case true=>
  go_wp2_with fail
  refine(awake_any _).mono ?_
  rintro e w9 ⟨rfl,hb9⟩
  go_wp2_with fail
  go_ret
  exact⟨rfl,B1.out.trans (hb9.mono B1.out.size)⟩
 have hl100:=HTB.out rfl
 have HL1:=Lib.hid hl100
 clear HTB
 go_wp2_with fail
 refine(CY.out _ B1.out (by omega)).mono ?_
 rintro e w2 ⟨L,lc,rfl,hl,hb⟩
 have B2:=Lib.hid (B1.out.trans (hb.mono B1.out.size))
 have K2:=Lib.hid (K1.out.later hb)
 have HL:=Lib.hid (hl.mono B1.out.size)
 clear hb hl a0 a1 a2 a3 z0 K1 B1 CY
 by_cases hE:(newM x).2=0
 case neg=>
  have t2:decide ((newM x).2=0)=false:=decide_eq_false hE
  have e9:(if(newM x).2=0 then(recTo (newM x).1 ops).2 else[])=[]:=if_neg hE
  simp only[t2]
  rw[e9]
  clear hE t2 HL e9
  go_wp2_with fail
  refine(awake_any _).mono ?_
  rintro e w9 ⟨rfl,hb9⟩
  go_wp2_with fail
  go_ret
  exact⟨rfl,B2.out.trans (hb9.mono B2.out.size)⟩
 have t2:decide ((newM x).2=0)=true:=decide_eq_true hE
 have hg1:=HG.out hE (by omega)
 have e9:(if(newM x).2=0 then(recTo (newM x).1 ops).2 else[])=(recTo (newM x).1 ops).2:=if_pos hE
 simp only[t2]
 rw[e9] at HL⊢
 have hrl:(recTo (newM x).1 ops).2.length≤100:=by have:=recTo_len (newM x).1 ops;omega
 clear hE t2 HG e9
 generalize(recTo (newM x).1 ops).2=l at*
 have HG1:=Lib.hid hg1
 have HOK:=Lib.hid (show∀p,p∈l→OpOk p.1∧RpOk p.2 from fun p hp=>by
  obtain⟨j,hj,rfl⟩:=List.getElem_of_mem hp
  obtain⟨_,_,_,_,_,⟨_,h⟩,_⟩:=HL.out.sl.at_ hj
  exact h)
 clear hg1
 have hm0:0≤r0%13:=by omega
 have hm1:r0%13<13:=by omega
 have HW:=Lib.hid (show IntKind.i64.wrap (1+r0%13)=1+r0%13 from IntWalk.i64_in _ (by omega))
 go_upto_region 7 with fail
 obtain⟨r,hr⟩:∃r,1+r0%13=r:=⟨_,rfl⟩
 rw[hr]
 have hr1:1≤r:=by omega
 have hr2:r≤13:=by omega
 clear hr hm0 hm1 HW hr0
 go_wp2_with fail
 go_loopw [10] (fun iv wr=> ∃i:Nat,i≤l.length∧iv=.int .i64 (i:Int)∧Hid (Below w.heap.size w wr)∧Hid (BoxN wr w.heap.size 24 #[.int .i64 x.shards,.int .i64 x.ttl,.int .i64 x.session,.slice V x.secs.length vc])∧Hid (Own stR 73 w.heap.size wr (.slice L l.length lc) l)) (fun iv _=>l.length-(intOf iv).toNat)
 case atStart=>exact⟨0,Nat.zero_le _,rfl,B2,K2,HL⟩
 case round=>
  obtain⟨i,hi,rfl,HB,HK,HL⟩:=hrel
  rename World=>wq
  clear B2 K2
  have hcl:=HL.out.sl.cap
  by_cases hlt:i<l.length
  case neg=>
   obtain rfl:i=l.length:=by omega
   have t0:decide ((l.length:Int)<(l.length:Int))=false:=by simp
   go_wp2_with fail
   refine(awake_any _).mono ?_
   rintro e w9 ⟨rfl,hb9⟩
   go_wp2_with fail
   go_ret
   exact⟨rfl,HB.out.trans (hb9.mono HB.out.size)⟩
  have t0:decide ((i:Int)<(l.length:Int))=true:=decide_eq_true (by omega)
  obtain⟨n1,n2,n3,n4⟩:=rec_bounds HG1.out HOK.out hlt
  have CP:=Lib.hid (fun W (hb:Below wq.heap.size wq W)=>spoilt_any (r:=r) (CS.out W (HB.out.trans (hb.mono HB.out.size))) (HL.out.sl.up hb) (by omega) hlt hr1 hr2 n1 n2 n3 n4)
  have SL:=Lib.hid (fun(bad:List (MOp×MRp)) (at_:Nat) (hs:spoilM x l i l[i].1 l[i].2 r (timeM l i)=some (bad,at_))=>spoil_law HG1.out hlt (op:=l[i].1) (rp:=l[i].2) rfl (r:=r) (bad:=bad) (at_:=at_) hs)
  unfold SpoiltPost at CP
  clear n1 n2 n3 n4
  generalize spoilM x l i l[i].1 l[i].2 r (timeM l i)=O at CP SL
  obtain⟨a0,-,a1,-,a2,-,a3,-,z0⟩:=HK.out.x4
  go_wp2_with fail
  refine(CP.out _ (Below.refl _ _)).mono ?_
  rintro e w3 (⟨rfl,rfl,hb⟩|⟨bad,at_,A3,c3,rfl,rfl,hsl,hb⟩)
  ·as_aux_lemma=>
    have B3:=Lib.hid (HB.out.trans (hb.mono HB.out.size))
    have K3:=Lib.hid (HK.out.later hb)
    have HL3:=Lib.hid (HL.out.up hb)
    clear hb a0 a1 a2 a3 z0 CP SL CC CS
    go_wp2_with fail
    go_roundw
    case rel=>exact⟨i+1,by omega,by go_num,B3,K3,HL3⟩
    case measure=>simp[intOf];omega
  as_aux_lemma=>
   have B3:=Lib.hid (HB.out.trans (hb.mono HB.out.size))
   have K3:=Lib.hid (HK.out.later hb)
   have HL3:=Lib.hid (HL.out.up hb)
   obtain⟨⟨fs,hfs⟩,hpt,hat,hbl⟩:=SL.out bad at_ rfl
   have HS:=Lib.hid hsl
   have HPT:=Lib.hid hpt
   have hcb:=hsl.cap
   have C1:=CC.out bad A3 c3 w3 B3.out hsl
   rw[hfs] at C1
   have C1:=Lib.hid C1
   clear hb a0 a1 a2 a3 z0 CP SL hfs hpt hsl HB HK HL
   obtain⟨a0,-,a1,-,a2,-,a3,-,z0⟩:=K3.out.x4
   have ta:decide ((at_:Int)<0)=false:=by simp
   go_wp2_with fail
   refine C1.out.mono ?_
   rintro e w4 ⟨A4,c4,rfl,hfo,hb⟩
   have B4:=Lib.hid (B3.out.trans (hb.mono B3.out.size))
   have K4:=Lib.hid (K3.out.later hb)
   have HL4:=Lib.hid (HL3.out.up hb)
   have HS4:=Lib.hid (HS.out.up hb)
   obtain⟨gf,cf,rfl,-,-,⟨rfl,-⟩,hf4,-⟩:=hfo.at_ (k:=0) (by simp)
   have q0:w4.cell? ⟨gf,0,none⟩=some (.int .i64 (at_:Int)):=hf4 0 _ rfl
   have q1:w4.cell? ⟨gf,1,none⟩=some (.int .i64 r):=hf4 1 _ rfl
   clear hb a0 a1 a2 a3 z0 C1 B3 K3 HL3 HS hf4 hfo
   obtain⟨n,hn⟩:∃n,fs.length+1=n:=⟨_,rfl⟩
   simp only[List.length_cons]
   rw[hn]
   have hn0:0<n:=by omega
   have tn:((n:Int)==0)=false:=by simp;omega
   clear hn
   have C2:=Lib.hid (fun W (hb:Below w4.heap.size w4 W)=>CC.out (bad.take at_) A3 c3 W (B4.out.trans (hb.mono B4.out.size)) ((HS4.out.frontN hat).up hb))
   rw[HPT.out,show(bad.take at_).length=at_ by rw[List.length_take];omega] at C2
   have hk0:(0:Int)≤(at_:Int):=by omega
   have hk1:(at_:Int)≤(bad.length:Int):=by omega
   have hk2:(at_:Int)≤(c3:Int):=by omega
   obtain⟨a0,-,a1,-,a2,-,a3,-,z0⟩:=K4.out.x4
   go_wp2_with fail
   refine wp_region_still_seq 4 (by kernel_rfl) (by kernel_rfl) (fun _ _ _ _ _ h=>h) ?_
   simp only[List.take_succ_cons,List.take_zero,List.drop_succ_cons,List.drop_zero,World.drew_eq]
   repeat still_step
   refine wpStill_nil ?_
   go_wp2_with fail
   refine(C2.out _ (bdd (Below.refl _ _))).mono ?_
   rintro e w5 ⟨A5,c5,rfl,_,hb5⟩
   replace hb5:Below w4.heap.size w4 w5:=(bdd (Below.refl _ _)).trans hb5
   have B5:=Lib.hid (B4.out.trans (hb5.mono B4.out.size))
   have K5:=Lib.hid (K4.out.later hb5)
   have HL5:=Lib.hid (HL4.out.up hb5)
   clear hb5 a0 a1 a2 a3 z0 C2 B4 K4 HL4 HS4 q0 q1
   simp only[List.length_nil]
   go_wp2_with fail
   go_roundw
   case rel=>exact⟨i+1,by omega,by go_num,B5,K5,HL5⟩
   case measure=>simp[intOf];omega
end Go.Proofs.YtlckmjiioohcmaaGreatDoor

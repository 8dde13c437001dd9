/-
  Walk of groundlingref15.Place. Conditions: as the theorem says.
-/
import Derived.Test.YtlckmjiioohcmaaGreatDoorRvM
import Derived.BigRegion
import Derived.Deep.CutRange
namespace Go.Proofs.YtlckmjiioohcmaaGreatDoor
open Go.RowKit
theorem seatsV_okP {x:Ve} (h:(seatsV x).2=0):(checkV x).2=0∧(seatsV x).1=sum (allRows x):=by
 unfold seatsV at h⊢
 by_cases hc:(checkV x).2≠0
 ·rw[if_pos hc] at h;exact absurd h hc
 ·rw[if_neg hc];exact⟨Decidable.not_not.1 hc,rfl⟩
theorem Cells.newS (w:World) (cs:List Value) (t:TypeId) (g:Nat) (hg:g=w.heap.size):Cells (w.alloc (.cells cs.toArray t)) g cs:=hg▸Cells.new w cs t
theorem seatsV_bad {x:Ve} (h:(seatsV x).2≠0):(checkV x).2≠0∧seatsV x=(0,(checkV x).2):=by
 unfold seatsV at h⊢
 split at h
 ·rename_i h1;rw[if_pos h1];exact⟨h1,rfl⟩
 ·exact absurd rfl h
theorem seatsV_good {x:Ve} (h:(seatsV x).2=0):(checkV x).2=0∧seatsV x=(((plAll x.secs 0).length:Int),0):=by
 have h1:=(seatsV_okP h).1
 have h2:=(plAll_bd (checkV_ok h1).1).1
 refine⟨h1, ?_⟩
 unfold seatsV
 rw[if_neg (by omega),h2]
 rfl
set_option maxRecDepth 20000 in
set_option maxHeartbeats 4000000 in
theorem rplace_any {w:World} {V:Option Addr} {vc:Nat} {x:Ve} (hv:Sl secR w (.slice V x.secs.length vc) x.secs) (seat:Int):
 Calls Tryz.prog 110 #[.agg #[.int .i64 x.shards,.int .i64 x.ttl,.int .i64 x.session,.slice V x.secs.length vc],.int .i64 seat] w fun e w'=>e=.returned (.tuple #[.agg #[.int .i64 (placeV x seat).1.sec,.int .i64 (placeV x seat).1.row,.int .i64 (placeV x seat).1.seat],.int .i64 (placeV x seat).2])∧Below w.heap.size w w':=by
 have C1:=Lib.hid (fun W (hb:Below w.heap.size w W)=>rseats_any (x:=x) (hv.up hb))
 have hbad:=Lib.hid (fun h=>seatsV_bad (x:=x) h)
 have hgood:=Lib.hid (fun h=>seatsV_good (x:=x) h)
 generalize seatsV x=K at C1 hbad hgood
 obtain⟨kn,ke⟩:=K
 simp only at C1 hbad hgood
 have HV:=Lib.hid hv
 obtain⟨R,hR⟩:∃R,placeV x seat=R:=⟨_,rfl⟩
 rw[hR]
 have HRR:=Lib.hid hR
 obtain⟨⟨r0,r1,r2⟩,re⟩:=R
 dsimp only
 obtain⟨q,hq⟩:∃q,w.heap.size=q:=⟨_,rfl⟩
 have HQ:=Lib.hid hq
 obtain⟨cs,hcs⟩:∃cs:List Value,cs=[.int .i64 x.shards,.int .i64 x.ttl,.int .i64 x.session,.slice V x.secs.length vc]:=⟨_,rfl⟩
 have HCS:=Lib.hid hcs
 have K0:=Lib.hid (show Cells ((w.alloc (.cells #[.int .i64 x.shards,.int .i64 x.ttl,.int .i64 x.session,.slice V x.secs.length vc] 24)).alloc (.cells #[.int .i64 0,.int .i64 0,.int .i64 0] 157)) q cs∧
  Cells ((w.alloc (.cells #[.int .i64 x.shards,.int .i64 x.ttl,.int .i64 x.session,.slice V x.secs.length vc] 24)).alloc (.cells #[.int .i64 0,.int .i64 0,.int .i64 0] 157)) (q+1) [.int .i64 0,.int .i64 0,.int .i64 0] from
  ⟨by rw[hcs];exact(Cells.newS _ _ _ _ hq.symm).alloc _,Cells.newS _ _ _ _ (by simp[hq])⟩)
 clear hcs hv hR
 go_enter Tryz.func110,Tryz.ntmps110
 go_wp2_with fail
 refine(C1.out _ (bal (ba _ _))).mono ?_
 rintro e w1 ⟨rfl,hb1⟩
 have K1:=Lib.hid (K0.out.1.later hb1)
 have K2:=Lib.hid (K0.out.2.later hb1)
 have HB:=Lib.hid ((bal (ba w _)).trans (hb1.mono (bal (ba w _)).size))
 clear hb1 K0 C1 hq
 have k0:=K1.out
 rw[HCS.out] at k0
 have c0:=k0.c 0 _ rfl
 have c1:=k0.c 1 _ rfl
 have c2:=k0.c 2 _ rfl
 have c3:=k0.c 3 _ rfl
 have y0:=k0.lt
 have d0:=K2.out.c 0 _ rfl
 have d1:=K2.out.c 1 _ rfl
 have d2:=K2.out.c 2 _ rfl
 have f0:=K2.out.f 0
 have f1:=K2.out.f 1
 have f2:=K2.out.f 2
 have y1:=K2.out.lt
 clear k0
 have hwq:w.heap.size≤q+1:=by have:=HQ.out;omega
 by_cases he:ke=0
 case neg=>as_aux_lemma=>
  have t0:(ke==0)=false:=by simpa using he
  have t1:(ke !=0)=true:=by simpa using he
  have hb:=hbad.out he
  obtain⟨hb1,hb2⟩:=hb
  injection hb2 with e1 e2
  have hp:=placeV_bad (seat:=seat) hb1
  rw[HRR.out,←e2] at hp
  injection hp with hp1 hp2
  injection hp1 with p0 p1 p2
  subst p0 p1 p2 hp2
  clear e1 e2 hb1
  go_wp2_with fail
  obtain⟨k3,hg⟩:=K2.out.put [.int .i64 0,.int .i64 0,.int .i64 0] rfl
  refine at_world (fun W=>Below w.heap.size w W∧Cells W (q+1) [.int .i64 0,.int .i64 0,.int .i64 0]) ⟨HB.out.grown hg HB.out.size (fun j hj=>by injection hj with hj;omega),k3⟩ fun w2 ⟨hb2,k4⟩=> ?_
  have g0:=k4.c 0 _ rfl
  have g1:=k4.c 1 _ rfl
  have g2:=k4.c 2 _ rfl
  exact bodyPost_ret (v:=.tuple #[.agg #[.int .i64 0,.int .i64 0,.int .i64 0],.int .i64 re]) (by simp[results,Tryz.results110,go_sem,g0,g1,g2]) rfl ⟨rfl,hb2⟩
 subst he
 obtain⟨hc,hs⟩:=hgood.out rfl
 injection hs with hs _
 subst hs
 have HC:=Lib.hid hc
 have hsok:=(checkV_ok hc).1
 have CP:=Lib.hid (fun W (hb:Below w1.heap.size w1 W)=>rplaces_any (sh:=x.shards) (ttl:=x.ttl) (ses:=x.session) ((HV.out.up HB.out).up hb) hsok)
 unfold PlacesPost at CP
 have hnone:=Lib.hid (fun h=>placeV_none (x:=x) (seat:=seat) hc h)
 have hsome:=Lib.hid (fun(k:Nat) hk=>placeV_some (x:=x) (k:=k) hc hk)
 clear hbad hgood hc hsok
 generalize plAll x.secs 0=pls at CP hnone hsome
 by_cases h1:seat<0
 case pos=>as_aux_lemma=>
  have t1:decide (seat<0)=true:=decide_eq_true h1
  have hp:=hnone.out (.inl h1)
  rw[HRR.out] at hp
  injection hp with hp1 hp2
  injection hp1 with p0 p1 p2
  subst p0 p1 p2 hp2
  clear h1
  go_wp2_with fail
  obtain⟨k3,hg⟩:=K2.out.put [.int .i64 0,.int .i64 0,.int .i64 0] rfl
  refine at_world (fun W=>Below w.heap.size w W∧Cells W (q+1) [.int .i64 0,.int .i64 0,.int .i64 0]) ⟨HB.out.grown hg HB.out.size (fun j hj=>by injection hj with hj;omega),k3⟩ fun w2 ⟨hb2,k4⟩=> ?_
  have g0:=k4.c 0 _ rfl
  have g1:=k4.c 1 _ rfl
  have g2:=k4.c 2 _ rfl
  exact bodyPost_ret (v:=.tuple #[.agg #[.int .i64 0,.int .i64 0,.int .i64 0],.int .i64 4]) (by simp[results,Tryz.results110,go_sem,g0,g1,g2]) rfl ⟨rfl,hb2⟩
 have t1:decide (seat<0)=false:=decide_eq_false h1
 obtain⟨k,rfl⟩:=Int.eq_ofNat_of_zero_le (Int.not_lt.1 h1)
 by_cases h2:k<pls.length
 case neg=>as_aux_lemma=>
  have t2:decide ((pls.length:Int)≤(k:Int))=true:=decide_eq_true (by omega)
  have t3:decide (pls.length≤k)=true:=decide_eq_true (by omega)
  have hp:=hnone.out (.inr (by omega))
  rw[HRR.out] at hp
  injection hp with hp1 hp2
  injection hp1 with p0 p1 p2
  subst p0 p1 p2 hp2
  clear h1 h2
  go_wp2_with fail
  obtain⟨k3,hg⟩:=K2.out.put [.int .i64 0,.int .i64 0,.int .i64 0] rfl
  refine at_world (fun W=>Below w.heap.size w W∧Cells W (q+1) [.int .i64 0,.int .i64 0,.int .i64 0]) ⟨HB.out.grown hg HB.out.size (fun j hj=>by injection hj with hj;omega),k3⟩ fun w2 ⟨hb2,k4⟩=> ?_
  have g0:=k4.c 0 _ rfl
  have g1:=k4.c 1 _ rfl
  have g2:=k4.c 2 _ rfl
  exact bodyPost_ret (v:=.tuple #[.agg #[.int .i64 0,.int .i64 0,.int .i64 0],.int .i64 4]) (by simp[results,Tryz.results110,go_sem,g0,g1,g2]) rfl ⟨rfl,hb2⟩
 as_aux_lemma=>
  have t2:decide ((pls.length:Int)≤(k:Int))=false:=decide_eq_false (by omega)
  have t3:decide (pls.length≤k)=false:=decide_eq_false (by omega)
  have hp:=hsome.out k h2
  rw[HRR.out] at hp
  injection hp with hp1 hp2
  subst hp2
  have hk0:(0:Int)≤(k:Int):=by omega
  have hk1:(k:Int)<(pls.length:Int):=by omega
  have HP1:=Lib.hid hp1
  clear h1 hp1
  go_wp2_with fail
  refine(CP.out _ (Below.refl _ _)).mono ?_
  rintro e w2 ⟨A,c,rfl,hown,hb2⟩
  obtain⟨b,off,cs2,hA,hbl,his,hat⟩:=hown.sl.at_ h2
  subst hA
  obtain⟨rfl,_⟩:=his
  rw[←HP1.out] at hat
  have a0:w2.cell? ⟨b,off+k*3,none⟩=some (.int .i64 r0):=hat 0 _ rfl
  have a1:w2.cell? ⟨b,off+k*3+1,none⟩=some (.int .i64 r1):=hat 1 _ rfl
  have a2:w2.cell? ⟨b,off+k*3+2,none⟩=some (.int .i64 r2):=hat 2 _ rfl
  have K3:=Lib.hid (K2.out.later hb2)
  have HB2:=Lib.hid (HB.out.trans (hb2.mono HB.out.size))
  clear hb2 hown hat c0 c1 c2 c3 y0 y1 d0 d1 d2 f0 f1 f2
  have d0:=K3.out.c 0 _ rfl
  have d1:=K3.out.c 1 _ rfl
  have d2:=K3.out.c 2 _ rfl
  have f0:=K3.out.f 0
  have f1:=K3.out.f 1
  have f2:=K3.out.f 2
  have y1:=K3.out.lt
  go_wp2_with fail
  obtain⟨k3,hg⟩:=K3.out.put [.int .i64 r0,.int .i64 r1,.int .i64 r2] rfl
  refine at_world (fun W=>Below w.heap.size w W∧Cells W (q+1) [.int .i64 r0,.int .i64 r1,.int .i64 r2]) ⟨HB2.out.grown hg HB2.out.size (fun j hj=>by injection hj with hj;omega),k3⟩ fun w3 ⟨hb3,k4⟩=> ?_
  have g0:=k4.c 0 _ rfl
  have g1:=k4.c 1 _ rfl
  have g2:=k4.c 2 _ rfl
  exact bodyPost_ret (v:=.tuple #[.agg #[.int .i64 r0,.int .i64 r1,.int .i64 r2],.int .i64 0]) (by simp[results,Tryz.results110,go_sem,g0,g1,g2]) rfl ⟨rfl,hb3⟩
end Go.Proofs.YtlckmjiioohcmaaGreatDoor

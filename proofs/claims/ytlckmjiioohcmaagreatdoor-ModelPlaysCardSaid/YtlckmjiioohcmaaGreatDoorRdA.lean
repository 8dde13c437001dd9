/-
  Walks of groundlingref19.check, without. Conditions: as each theorem says.
-/
import Derived.Test.YtlckmjiioohcmaaGreatDoorRvW
namespace Go.Proofs.YtlckmjiioohcmaaGreatDoor
open Go.RowKit
set_option maxHeartbeats 4000000 in
set_option maxRecDepth 20000 in
theorem rAdCheck_any {w:World} {V:Option Addr} {vc:Nat} {x:Ve} (hv:Sl secR w (.slice V x.secs.length vc) x.secs) (F:Option Addr) (n fc:Nat) (sec:Int):
 Calls Tryz.prog 147 #[.agg #[.int .i64 x.shards,.int .i64 x.ttl,.int .i64 x.session,.slice V x.secs.length vc],.slice F n fc,.int .i64 sec] w fun e w'=>e=.returned (.int .i64 (adCheckM x n sec))∧Below w.heap.size w w':=by
 have C1:=Lib.hid (fun W (hb:Below w.heap.size w W)=>rseats_any (x:=x) (hv.up hb))
 have hM:=Lib.hid (show adCheckM x n sec=if(seatsV x).2≠0 then(seatsV x).2 else if(n:Int)≠(seatsV x).1 then 6 else if sec<0∨(x.secs.length:Int)≤sec then 4 else 0 from rfl)
 generalize adCheckM x n sec=M at hM⊢
 generalize seatsV x=E at C1 hM
 obtain⟨E1,E2⟩:=E
 simp only at C1 hM
 clear hv
 go_enter Tryz.func147,Tryz.ntmps147
 go_upto_region 1 with fail
 obtain⟨q,hq⟩:∃q,w.heap.size=q:=⟨_,rfl⟩
 rw[hq]
 refine at_world (fun X=>Below w.heap.size w X∧BoxN X q 24 #[.int .i64 x.shards,.int .i64 x.ttl,.int .i64 x.session,.slice V x.secs.length vc]) ⟨ba _ _,hq▸BoxN.new w _ _⟩ fun w0 hw0=> ?_
 have B0:=Lib.hid hw0.1
 have K0:=Lib.hid hw0.2
 clear hw0
 have c0:=K0.out.cell 0 _ rfl
 have c1:=K0.out.cell 1 _ rfl
 have c2:=K0.out.cell 2 _ rfl
 have c3:=K0.out.cell 3 _ rfl
 have z0:=K0.out.lt
 go_wp2_with fail
 refine(C1.out _ B0.out).mono ?_
 rintro e w1 ⟨rfl,hb⟩
 have B1:=Lib.hid (B0.out.trans (hb.mono B0.out.size))
 have K1:=Lib.hid (K0.out.later hb)
 clear hb c0 c1 c2 c3 z0 K0 B0 C1
 have c3:=K1.out.cell 3 _ rfl
 have z0:=K1.out.lt
 by_cases h1:E2=0
 case neg=>
  have t1:(E2==0)=false:=by simpa using h1
  have hM2:=Lib.hid (hM.out.trans (if_pos h1))
  clear h1 hM
  go_wp2_with fail
  go_ret
  exact⟨by rw[hM2.out];rfl,by first|exact B1.out|(rw[←hq];exact B1.out)⟩
 subst h1
 by_cases h2:(n:Int)=E1
 case neg=>
  have t2:((n:Int) !=E1)=true:=by simpa using h2
  have hM2:=Lib.hid (show M=6 by rw[hM.out,if_neg (by simp),if_pos h2])
  clear h2 hM
  go_wp2_with fail
  go_ret
  exact⟨by rw[hM2.out];rfl,by first|exact B1.out|(rw[←hq];exact B1.out)⟩
 subst h2
 by_cases h3:sec<0
 ·have t3:decide (sec<0)=true:=decide_eq_true h3
  have hM2:=Lib.hid (show M=4 by rw[hM.out,if_neg (by simp),if_neg (by simp),if_pos (.inl h3)])
  clear h3 hM
  go_wp2_with fail
  go_ret
  exact⟨by rw[hM2.out];rfl,by first|exact B1.out|(rw[←hq];exact B1.out)⟩
 have t3:decide (sec<0)=false:=decide_eq_false h3
 by_cases h4:(x.secs.length:Int)≤sec
 ·have t4:decide ((x.secs.length:Int)≤sec)=true:=decide_eq_true h4
  have hM2:=Lib.hid (show M=4 by rw[hM.out,if_neg (by simp),if_neg (by simp),if_pos (.inr h4)])
  clear h3 h4 hM
  go_wp2_with fail
  go_ret
  exact⟨by rw[hM2.out];rfl,by first|exact B1.out|(rw[←hq];exact B1.out)⟩
 ·have t4:decide ((x.secs.length:Int)≤sec)=false:=decide_eq_false h4
  have hM2:=Lib.hid (show M=0 by rw[hM.out,if_neg (by simp),if_neg (by simp),if_neg (by omega)])
  clear h3 h4 hM
  go_wp2_with fail
  go_ret
  exact⟨by rw[hM2.out];rfl,by first|exact B1.out|(rw[←hq];exact B1.out)⟩
end Go.Proofs.YtlckmjiioohcmaaGreatDoor

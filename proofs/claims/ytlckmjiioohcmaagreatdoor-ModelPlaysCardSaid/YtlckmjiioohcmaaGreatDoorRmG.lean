/-
  Walks of groundlingref23.session, wrong: the errors ahead of seats and lists are those of model.refused. Conditions: as each theorem says.
-/
import Derived.Test.YtlckmjiioohcmaaGreatDoorRmF
namespace Go.Proofs.YtlckmjiioohcmaaGreatDoor
open Go.RowKit
theorem rSession_any (k:Int) (w:World):Calls Tryz.prog 67 #[.int .i64 k] w fun e w'=>e=.returned (.bool (k !=1&&(k !=9&&k !=12)))∧w=w':=by
 by_cases h1:k=1
 ·subst h1
  go_enter Tryz.func67,Tryz.ntmps67
  go_wp2_with fail
  go_ret
  exact⟨rfl,rfl⟩
 by_cases h2:k=9
 ·subst h2
  go_enter Tryz.func67,Tryz.ntmps67
  go_wp2_with fail
  go_ret
  exact⟨rfl,rfl⟩
 by_cases h3:k=12
 ·subst h3
  go_enter Tryz.func67,Tryz.ntmps67
  go_wp2_with fail
  go_ret
  exact⟨rfl,rfl⟩
 have t1:(k !=1)=true:=by simpa using h1
 have t2:(k !=9)=true:=by simpa using h2
 have t3:(k !=12)=true:=by simpa using h3
 rw[t1,t2,t3]
 clear h1 h2 h3
 go_enter Tryz.func67,Tryz.ntmps67
 go_wp2_with fail
 go_ret
 exact⟨rfl,rfl⟩
set_option maxHeartbeats 8000000 in
set_option maxRecDepth 20000 in
theorem rWrong_any (F:MFrm) (s:Md) (op:MOp) (w:World) (ho:OpOk op) (hq:s.qs.length=s.ve.secs.length) (hk:1≤op.kind∧op.kind≤12):
 Calls Tryz.prog 35 #[mdV F s,.agg (opCells op).toArray] w fun e w'=>e=.returned (.int .i64 (refusedM s op (targetM op).1 (targetM op).2.1))∧Below w.heap.size w w':=by
 have hC:=fun X=>rTarget_any op X ho
 generalize targetM op=T at hC⊢
 obtain⟨T1,T2,T3⟩:=T
 obtain⟨K,ow,ti,se,sc,nn,too,⟨t0,t1,t2,t3⟩,nw⟩:=op
 simp only at hk hC⊢
 have HR:=Lib.hid (show refusedM s ⟨K,ow,ti,se,sc,nn,too,⟨t0,t1,t2,t3⟩,nw⟩ T1 T2=if K=1∨K=12 then 0 else if K≠9∧ti≤s.now then 13 else if K=8 then(if ow≠0 then 14 else if T1<0∨(s.seats.length:Int)≤T1 then 4 else 0)
  else if K=6∨K=7 then(if ow≠t1 then 14 else if T1<0∨(s.seats.length:Int)≤T1 then 4 else 0) else if K=3∨K=10∨K=11 then(if T2<0∨(s.qs.length:Int)≤T2 then 4 else if K=3∧(nn<1∨8<nn) then 7 else 0) else if T1<0∨(s.seats.length:Int)≤T1 then 4 else 0 from rfl)
 rw[hq] at HR
 generalize refusedM s ⟨K,ow,ti,se,sc,nn,too,⟨t0,t1,t2,t3⟩,nw⟩ T1 T2=R at HR⊢
 obtain⟨os,hos⟩:∃os:List Value,os=opCells ⟨K,ow,ti,se,sc,nn,too,⟨t0,t1,t2,t3⟩,nw⟩:=⟨_,rfl⟩
 have C1:=Lib.hid (show∀X,Calls Tryz.prog 68 #[.agg os.toArray] X fun e w'=>e=.returned (.tuple #[.int .i64 T1,.int .i64 T2,.int .i64 T3])∧Below X.heap.size X w' by rw[hos];exact hC)
 have SO:=Lib.hid (show(Tryz.prog.info? 46).map (·.size)=some os.length by rw[hos];kernel_rfl)
 have hos2:os.toArray=#[.int .i64 K,.int .u32 ow,.int .i64 ti,.int .i64 se,.int .i64 sc,.int .i64 nn,.int .u32 too,.int .u32 t0,.int .u32 t1,.int .u64 t2,.int .u64 t3,.int .i64 nw]:=by rw[hos];rfl
 have HOS2:=Lib.hid hos2
 have HKD:=Lib.hid hk
 obtain⟨B,hB⟩:∃B,B=(K !=1&&(K !=9&&K !=12)):=⟨_,rfl⟩
 have RS:=Lib.hid (fun X=>rSession_any K X)
 rw[←hB] at RS
 have HB:=Lib.hid (show B=true↔K≠1∧K≠9∧K≠12 by rw[hB];simp)
 rw[←hos]
 unfold mdV
 clear ho hos hos2 hC hB hk hq
 go_enter Tryz.func35,Tryz.ntmps35
 go_upto_region 1 with fail
 obtain⟨q,hqq⟩:∃q,w.heap.size=q:=⟨_,rfl⟩
 rw[hqq]
 refine at_world (fun X=>Below w.heap.size w X∧BoxN X q 31 (mdCells F s).toArray∧BoxN X (q+1) 46 os.toArray) (two_boxes hqq _ _ _ _) fun w1 hw1=> ?_
 have B1:=Lib.hid hw1.1
 have P1:=Lib.hid hw1.2.2
 have K1:=Lib.hid hw1.2.1
 have P1':=Lib.hid (show BoxN w1 (q+1) 46 #[.int .i64 K,.int .u32 ow,.int .i64 ti,.int .i64 se,.int .i64 sc,.int .i64 nn,.int .u32 too,.int .u32 t0,.int .u32 t1,.int .u64 t2,.int .u64 t3,.int .i64 nw] by rw[←HOS2.out];exact P1.out)
 clear hw1
 have p0:=P1'.out.cell 0 _ rfl
 have p1:=P1'.out.cell 1 _ rfl
 have p2:=P1'.out.cell 2 _ rfl
 have p8:=P1'.out.cell 8 _ rfl
 have c4:=K1.out.cell 4 (.int .i64 s.now) rfl
 have zp:=P1'.out.lt
 have zq:=K1.out.lt
 go_cut [17] from 8 to 17 (fun v W=> ∃b:Bool,v=.bool b∧Hid (b=true↔(K≠1∧K≠9∧K≠12)∧ti≤s.now)∧W=w1)
 case first=>as_aux_lemma=>
  clear p1 p8
  cases B
  case false=>
   go_wp2_with (go_at_call 67;refine(RS.out _).mono ?_;rintro e w' ⟨rfl,rfl⟩)
   go_meet
   exact⟨_,rfl,Lib.hid ⟨fun h=>(by cases h),fun h=>absurd (HB.out.2 h.1) (by simp)⟩,rfl⟩
  by_cases h1:ti≤s.now
  ·have v1:decide (ti≤s.now)=true:=decide_eq_true h1
   have H1:=Lib.hid h1
   clear h1
   go_wp2_with (go_at_call 67;refine(RS.out _).mono ?_;rintro e w' ⟨rfl,rfl⟩)
   go_meet
   exact⟨_,rfl,Lib.hid ⟨fun _=>⟨HB.out.1 (by simp),H1.out⟩,fun _=>rfl⟩,rfl⟩
  ·have v1:decide (ti≤s.now)=false:=decide_eq_false h1
   have H1:=Lib.hid h1
   clear h1
   go_wp2_with (go_at_call 67;refine(RS.out _).mono ?_;rintro e w' ⟨rfl,rfl⟩)
   go_meet
   exact⟨_,rfl,Lib.hid ⟨fun h=>(by cases h),fun h=>absurd h.2 (by have:=H1.out;omega)⟩,rfl⟩
 case rest=>
 obtain⟨b,rfl,HBB,rfl⟩:=hcut
 rename World=>w1
 clear RS HB B
 cases b
 case true=>
  obtain rfl:R=13:=by have:=HBB.out.1 rfl;rw[HR.out];(repeat' split)<;>omega
  go_wp2_with fail
  go_ret
  exact⟨rfl,by first|exact B1.out|(rw[←hqq];exact B1.out)⟩
 go_upto_region 3 with fail
 go_cut [43] from 18 to 43 (fun v W=> ∃b:Bool,v=.bool b∧Hid (b=true↔K=8∧ow≠0∨(K=6∨K=7)∧ow≠t1)∧W=w1)
 case first=>as_aux_lemma=>
  clear HR HBB HKD C1 SO p2 c4 HOS2 P1 K1 B1 P1'
  by_cases h8:K=8
  ·by_cases h0:ow=0
   case neg=>
    have v2:(ow !=0)=true:=by simpa using h0
    have e8:(K==8)=true:=by simpa using h8
    have HQ:=Lib.hid (And.intro h8 h0)
    clear h0 h8
    go_wp2_with fail
    go_meet
    exact⟨_,rfl,Lib.hid ⟨fun _=> .inl HQ.out,fun _=>rfl⟩,rfl⟩
   have v2:(ow !=0)=false:=by simpa using h0
   have e8:(K==8)=true:=by simpa using h8
   have e6:(K==6)=false:=by simp;omega
   have e7:(K==7)=false:=by simp;omega
   have HQ:=Lib.hid (show¬(K=8∧ow≠0∨(K=6∨K=7)∧ow≠t1) by omega)
   clear h0 h8
   go_wp2_with fail
   go_meet
   exact⟨_,rfl,Lib.hid ⟨fun h=>(by cases h),fun h=>absurd h HQ.out⟩,rfl⟩
  have e8:(K==8)=false:=by simpa using h8
  by_cases h6:K=6
  ·have e6:(K==6)=true:=by simpa using h6
   by_cases h0:ow=t1
   ·have v2:(t1 !=ow)=false:=by simpa using h0.symm
    have HQ:=Lib.hid (show¬(K=8∧ow≠0∨(K=6∨K=7)∧ow≠t1) by omega)
    clear h0 h8 h6
    go_wp2_with fail
    go_meet
    exact⟨_,rfl,Lib.hid ⟨fun h=>(by cases h),fun h=>absurd h HQ.out⟩,rfl⟩
   ·have v2:(t1 !=ow)=true:=by simpa using Ne.symm h0
    have HQ:=Lib.hid (show(K=8∧ow≠0∨(K=6∨K=7)∧ow≠t1) by omega)
    clear h0 h8 h6
    go_wp2_with fail
    go_meet
    exact⟨_,rfl,Lib.hid ⟨fun _=>HQ.out,fun _=>rfl⟩,rfl⟩
  have e6:(K==6)=false:=by simpa using h6
  by_cases h7:K=7
  ·have e7:(K==7)=true:=by simpa using h7
   by_cases h0:ow=t1
   ·have v2:(t1 !=ow)=false:=by simpa using h0.symm
    have HQ:=Lib.hid (show¬(K=8∧ow≠0∨(K=6∨K=7)∧ow≠t1) by omega)
    clear h0 h8 h6 h7
    go_wp2_with fail
    go_meet
    exact⟨_,rfl,Lib.hid ⟨fun h=>(by cases h),fun h=>absurd h HQ.out⟩,rfl⟩
   ·have v2:(t1 !=ow)=true:=by simpa using Ne.symm h0
    have HQ:=Lib.hid (show(K=8∧ow≠0∨(K=6∨K=7)∧ow≠t1) by omega)
    clear h0 h8 h6 h7
    go_wp2_with fail
    go_meet
    exact⟨_,rfl,Lib.hid ⟨fun _=>HQ.out,fun _=>rfl⟩,rfl⟩
  have e7:(K==7)=false:=by simpa using h7
  have HQ:=Lib.hid (show¬(K=8∧ow≠0∨(K=6∨K=7)∧ow≠t1) by omega)
  clear h8 h6 h7
  go_wp2_with fail
  go_meet
  exact⟨_,rfl,Lib.hid ⟨fun h=>(by cases h),fun h=>absurd h HQ.out⟩,rfl⟩
 case rest=>
 obtain⟨b,rfl,HB3,rfl⟩:=hcut
 rename World=>w1
 have HF:=Lib.hid (show¬((K≠1∧K≠9∧K≠12)∧ti≤s.now) from fun h=>by have:=HBB.out.2 h;cases this)
 clear HBB
 cases b
 case true=>
  obtain rfl:R=14:=by have:=HB3.out.1 rfl;have:=HF.out;rw[HR.out];(repeat' split)<;>omega
  go_wp2_with fail
  go_ret
  exact⟨rfl,by first|exact B1.out|(rw[←hqq];exact B1.out)⟩
 have HG:=Lib.hid (show¬(K=8∧ow≠0∨(K=6∨K=7)∧ow≠t1) from fun h=>by have:=HB3.out.2 h;cases this)
 clear HB3 p0 p1 p2 p8 c4 zp zq
 have zp:=P1'.out.lt
 go_wp2_with (refine wpList_load_mid rfl 46 (.tmp 3) rfl (q+1) 0 rfl os _ P1.out.range2 Tryz.underlying46 rfl SO.out ?_)
 refine(C1.out _).mono ?_
 rintro e w2 ⟨rfl,hb⟩
 have B2:=Lib.hid (B1.out.trans (hb.mono B1.out.size))
 have P2':=Lib.hid (P1'.out.later hb)
 have K2:=Lib.hid (K1.out.later hb)
 clear hb zp P1 P1' K1 B1 C1
 have p0:=P2'.out.cell 0 _ rfl
 have p5:=P2'.out.cell 5 _ rfl
 have c3:=K2.out.cell 3 (.slice F.V s.ve.secs.length F.vc) rfl
 have c5:=K2.out.cell 5 (.slice F.A s.seats.length F.ac) rfl
 have zp:=P2'.out.lt
 have zq:=K2.out.lt
 have HFG:=Lib.hid (And.intro HF.out HG.out)
 clear HF HG
 by_cases k1:K=1∨K=12
 ·obtain rfl:R=0:=by rw[HR.out];(repeat' split)<;>omega
  clear HR HKD
  rcases k1 with rfl|rfl
  all_goals
   go_wp2_with fail
   go_ret
   exact⟨rfl,by first|exact B2.out|(rw[←hqq];exact B2.out)⟩
 by_cases k3:K=3∨K=10∨K=11
 ·by_cases s1:T2<0∨(s.ve.secs.length:Int)≤T2
  ·obtain rfl:R=4:=by have:=HFG.out;rw[HR.out];(repeat' split)<;>omega
   have HS1:=Lib.hid s1
   clear HR HKD k1 HFG s1
   by_cases s2:T2<0
   case' pos=>have u1:decide (T2<0)=true:=decide_eq_true s2
   case' neg=>
    have u1:decide (T2<0)=false:=decide_eq_false s2
    have u2:decide ((s.ve.secs.length:Int)≤T2)=true:=decide_eq_true (by have:=HS1.out;omega)
   all_goals
    clear s2 HS1
    rcases k3 with rfl|rfl|rfl
   all_goals
    go_wp2_with fail
    go_ret
    exact⟨rfl,by first|exact B2.out|(rw[←hqq];exact B2.out)⟩
  have u1:decide (T2<0)=false:=decide_eq_false (by omega)
  have u2:decide ((s.ve.secs.length:Int)≤T2)=false:=decide_eq_false (by omega)
  have HS1:=Lib.hid s1
  clear s1
  rcases k3 with rfl|k3
  ·have HF2:=Lib.hid (show s.now<ti by have:=HFG.out;omega)
   by_cases n1:nn<1
   ·obtain rfl:R=7:=by have:=HF2.out;have:=HS1.out;rw[HR.out];(repeat' split)<;>omega
    have u3:decide (nn<1)=true:=decide_eq_true n1
    clear HR HKD k1 HFG n1
    go_wp2_with fail
    go_ret
    exact⟨rfl,by first|exact B2.out|(rw[←hqq];exact B2.out)⟩
   have u3:decide (nn<1)=false:=decide_eq_false n1
   by_cases n2:8<nn
   ·obtain rfl:R=7:=by have:=HF2.out;have:=HS1.out;rw[HR.out];(repeat' split)<;>omega
    have u4:decide (8<nn)=true:=decide_eq_true n2
    clear HR HKD k1 HFG n1 n2
    go_wp2_with fail
    go_ret
    exact⟨rfl,by first|exact B2.out|(rw[←hqq];exact B2.out)⟩
   have u4:decide (8<nn)=false:=decide_eq_false n2
   obtain rfl:R=0:=by have:=HF2.out;have:=HS1.out;rw[HR.out];(repeat' split)<;>omega
   clear HR HKD k1 HFG n1 n2
   go_wp2_with fail
   go_ret
   exact⟨rfl,by first|exact B2.out|(rw[←hqq];exact B2.out)⟩
  obtain rfl:R=0:=by have:=HFG.out;have:=HS1.out;rw[HR.out];(repeat' split)<;>omega
  clear HR HKD k1 HFG
  rcases k3 with rfl|rfl
  all_goals
   go_wp2_with fail
   go_ret
   exact⟨rfl,by first|exact B2.out|(rw[←hqq];exact B2.out)⟩
 have e1:(K==1)=false:=by simp;omega
 have e12:(K==12)=false:=by simp;omega
 have e3:(K==3)=false:=by simp;omega
 have e10:(K==10)=false:=by simp;omega
 have e11:(K==11)=false:=by simp;omega
 by_cases s1:T1<0
 ·have u1:decide (T1<0)=true:=decide_eq_true s1
  obtain rfl:R=4:=by have:=HFG.out;rw[HR.out];(repeat' split)<;>omega
  clear HR HKD k1 k3 HFG s1
  go_wp2_with fail
  go_ret
  exact⟨rfl,by first|exact B2.out|(rw[←hqq];exact B2.out)⟩
 have u1:decide (T1<0)=false:=decide_eq_false s1
 by_cases s2:(s.seats.length:Int)≤T1
 ·have u2:decide ((s.seats.length:Int)≤T1)=true:=decide_eq_true s2
  obtain rfl:R=4:=by have:=HFG.out;rw[HR.out];(repeat' split)<;>omega
  clear HR HKD k1 k3 HFG s1 s2
  go_wp2_with fail
  go_ret
  exact⟨rfl,by first|exact B2.out|(rw[←hqq];exact B2.out)⟩
 have u2:decide ((s.seats.length:Int)≤T1)=false:=decide_eq_false s2
 obtain rfl:R=0:=by have:=HFG.out;rw[HR.out];(repeat' split)<;>omega
 clear HR HKD k1 k3 HFG s1 s2
 go_wp2_with fail
 go_ret
 exact⟨rfl,by first|exact B2.out|(rw[←hqq];exact B2.out)⟩
end Go.Proofs.YtlckmjiioohcmaaGreatDoor

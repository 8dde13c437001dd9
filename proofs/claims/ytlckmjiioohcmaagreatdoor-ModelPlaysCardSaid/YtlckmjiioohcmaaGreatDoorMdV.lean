/-
  Walk of model.refused. Conditions: as the theorem says.
  A state of layer 23 that is one stays one, whatever the operation is. Conditions: none.
  Walk of model.does; which function an operation of the office runs. Conditions: as each theorem says.
-/
import Derived.Test.YtlckmjiioohcmaaGreatDoorMdT
import Derived.Test.YtlckmjiioohcmaaGreatDoorMdP
import Derived.Deep.MidRow
import Derived.Laws.Tables
import Derived.Laws.CopyOwn
namespace Go.Proofs.YtlckmjiioohcmaaGreatDoor
open Go.RowKit
def seatE (n:Nat) (seat:Int):Int:=if seat<0∨(n:Int)≤seat then 4 else 0
def refusedM (s:Md) (op:MOp) (seat sec:Int):Int:=
 if op.kind=1∨op.kind=12 then 0
 else if op.kind≠9∧op.till≤s.now then 13
 else if op.kind=8 then(if op.owner≠0 then 14 else seatE s.seats.length seat)
 else if op.kind=6∨op.kind=7 then(if op.owner≠op.tk.owner then 14 else seatE s.seats.length seat)
 else if op.kind=3∨op.kind=10∨op.kind=11 then(if sec<0∨(s.qs.length:Int)≤sec then 4 else if op.kind=3∧(op.n<1∨8<op.n) then 7 else 0)
 else seatE s.seats.length seat
section
variable (x0 x1 x2 now:Int) (V A Q:Option Addr) (nsec vc nseats ac nqs qc:Nat) (ow ti se sc nn ot ts tw te tp nw seat sec:Int) (w:World)
def RfC (K M:Int):Prop:=Calls Tryz.prog 62 #[.agg #[.int .i64 x0,.int .i64 x1,.int .i64 x2,.slice V nsec vc,.int .i64 now,.slice A nseats ac,.slice Q nqs qc],.agg #[.int .i64 K,.int .u32 ow,.int .i64 ti,.int .i64 se,.int .i64 sc,.int .i64 nn,.int .u32 ot,.int .u32 ts,.int .u32 tw,.int .u64 te,.int .u64 tp,.int .i64 nw],.int .i64 seat,.int .i64 sec] w fun e w'=>e=.returned (.int .i64 M)∧Below w.heap.size w w'
set_option maxHeartbeats 4000000 in
theorem refused1_any {K:Int} (hK:K=1∨K=12):RfC x0 x1 x2 now V A Q nsec vc nseats ac nqs qc ow ti se sc nn ot ts tw te tp nw seat sec w K (0):=by
 unfold RfC
 have HB:=Lib.hid (bal (o:=.cells #[.int .i64 K,.int .u32 ow,.int .i64 ti,.int .i64 se,.int .i64 sc,.int .i64 nn,.int .u32 ot,.int .u32 ts,.int .u32 tw,.int .u64 te,.int .u64 tp,.int .i64 nw] 46) (ba w (.cells #[.int .i64 x0,.int .i64 x1,.int .i64 x2,.slice V nsec vc,.int .i64 now,.slice A nseats ac,.slice Q nqs qc] 31)))
 rcases hK with rfl|rfl
 all_goals
  go_enter Tryz.func62,Tryz.ntmps62
  go_wp2
  go_ret
  exact⟨rfl,HB.out⟩
set_option maxHeartbeats 6000000 in
theorem refused2_any {K:Int} (hK:K=2∨K=4∨K=5):RfC x0 x1 x2 now V A Q nsec vc nseats ac nqs qc ow ti se sc nn ot ts tw te tp nw seat sec w K (if ti≤now then 13 else seatE nseats seat):=by
 unfold RfC
 have HB:=Lib.hid (bal (o:=.cells #[.int .i64 K,.int .u32 ow,.int .i64 ti,.int .i64 se,.int .i64 sc,.int .i64 nn,.int .u32 ot,.int .u32 ts,.int .u32 tw,.int .u64 te,.int .u64 tp,.int .i64 nw] 46) (ba w (.cells #[.int .i64 x0,.int .i64 x1,.int .i64 x2,.slice V nsec vc,.int .i64 now,.slice A nseats ac,.slice Q nqs qc] 31)))
 rcases hK with rfl|rfl|rfl
 all_goals
  by_cases st:ti≤now
  ·rw[show(if ti≤now then 13 else seatE nseats seat:Int)=13 by simp[st]]
   go_enter Tryz.func62,Tryz.ntmps62
   go_wp2
   go_ret
   exact⟨rfl,HB.out⟩
  ·by_cases s1:seat<0
   ·rw[show(if ti≤now then 13 else seatE nseats seat:Int)=4 by simp[seatE,st,s1]]
    go_enter Tryz.func62,Tryz.ntmps62
    go_wp2
    go_ret
    exact⟨rfl,HB.out⟩
   ·by_cases s2:(nseats:Int)≤seat
    ·rw[show(if ti≤now then 13 else seatE nseats seat:Int)=4 by simp[seatE,st,s2]]
     go_enter Tryz.func62,Tryz.ntmps62
     go_wp2
     go_ret
     exact⟨rfl,HB.out⟩
    ·rw[show(if ti≤now then 13 else seatE nseats seat:Int)=0 by simp[seatE,st,s1,s2]]
     go_enter Tryz.func62,Tryz.ntmps62
     go_wp2
     go_ret
     exact⟨rfl,HB.out⟩
set_option maxHeartbeats 2000000 in
theorem refused3_any {K:Int} (hK:K=3):RfC x0 x1 x2 now V A Q nsec vc nseats ac nqs qc ow ti se sc nn ot ts tw te tp nw seat sec w K (if ti≤now then 13 else if sec<0∨(nqs:Int)≤sec then 4 else if nn<1∨8<nn then 7 else 0):=by
 unfold RfC
 have HB:=Lib.hid (bal (o:=.cells #[.int .i64 K,.int .u32 ow,.int .i64 ti,.int .i64 se,.int .i64 sc,.int .i64 nn,.int .u32 ot,.int .u32 ts,.int .u32 tw,.int .u64 te,.int .u64 tp,.int .i64 nw] 46) (ba w (.cells #[.int .i64 x0,.int .i64 x1,.int .i64 x2,.slice V nsec vc,.int .i64 now,.slice A nseats ac,.slice Q nqs qc] 31)))
 subst hK
 by_cases st:ti≤now
 ·rw[show(if ti≤now then 13 else if sec<0∨(nqs:Int)≤sec then 4 else if nn<1∨8<nn then 7 else 0:Int)=13 by simp[st]]
  go_enter Tryz.func62,Tryz.ntmps62
  go_wp2
  go_ret
  exact⟨rfl,HB.out⟩
 ·by_cases s1:sec<0
  ·rw[show(if ti≤now then 13 else if sec<0∨(nqs:Int)≤sec then 4 else if nn<1∨8<nn then 7 else 0:Int)=4 by simp[st,s1]]
   go_enter Tryz.func62,Tryz.ntmps62
   go_wp2
   go_ret
   exact⟨rfl,HB.out⟩
  ·by_cases s2:(nqs:Int)≤sec
   ·rw[show(if ti≤now then 13 else if sec<0∨(nqs:Int)≤sec then 4 else if nn<1∨8<nn then 7 else 0:Int)=4 by simp[st,s2]]
    go_enter Tryz.func62,Tryz.ntmps62
    go_wp2
    go_ret
    exact⟨rfl,HB.out⟩
   ·by_cases s3:nn<1
    ·rw[show(if ti≤now then 13 else if sec<0∨(nqs:Int)≤sec then 4 else if nn<1∨8<nn then 7 else 0:Int)=7 by simp[st,s1,s2,s3]]
     go_enter Tryz.func62,Tryz.ntmps62
     go_wp2
     go_ret
     exact⟨rfl,HB.out⟩
    ·by_cases s4:8<nn
     ·rw[show(if ti≤now then 13 else if sec<0∨(nqs:Int)≤sec then 4 else if nn<1∨8<nn then 7 else 0:Int)=7 by simp[st,s1,s2,s4]]
      go_enter Tryz.func62,Tryz.ntmps62
      go_wp2
      go_ret
      exact⟨rfl,HB.out⟩
     ·rw[show(if ti≤now then 13 else if sec<0∨(nqs:Int)≤sec then 4 else if nn<1∨8<nn then 7 else 0:Int)=0 by simp[st,s1,s2,s3,s4]]
      go_enter Tryz.func62,Tryz.ntmps62
      go_wp2
      go_ret
      exact⟨rfl,HB.out⟩
set_option maxHeartbeats 4000000 in
theorem refused6_any {K:Int} (hK:K=6∨K=7):RfC x0 x1 x2 now V A Q nsec vc nseats ac nqs qc ow ti se sc nn ot ts tw te tp nw seat sec w K (if ti≤now then 13 else if ow≠tw then 14 else seatE nseats seat):=by
 unfold RfC
 have HB:=Lib.hid (bal (o:=.cells #[.int .i64 K,.int .u32 ow,.int .i64 ti,.int .i64 se,.int .i64 sc,.int .i64 nn,.int .u32 ot,.int .u32 ts,.int .u32 tw,.int .u64 te,.int .u64 tp,.int .i64 nw] 46) (ba w (.cells #[.int .i64 x0,.int .i64 x1,.int .i64 x2,.slice V nsec vc,.int .i64 now,.slice A nseats ac,.slice Q nqs qc] 31)))
 rcases hK with rfl|rfl
 all_goals
  by_cases st:ti≤now
  ·rw[show(if ti≤now then 13 else if ow≠tw then 14 else seatE nseats seat:Int)=13 by simp[st]]
   go_enter Tryz.func62,Tryz.ntmps62
   go_wp2
   go_ret
   exact⟨rfl,HB.out⟩
  ·by_cases s0:ow=tw
   ·have t0:(ow !=tw)=false:=by simpa using s0
    have S0:=Lib.hid s0
    clear s0
    by_cases s1:seat<0
    ·rw[show(if ti≤now then 13 else if ow≠tw then 14 else seatE nseats seat:Int)=4 by simp[seatE,st,S0.out,s1]]
     go_enter Tryz.func62,Tryz.ntmps62
     go_wp2
     go_ret
     exact⟨rfl,HB.out⟩
    ·by_cases s2:(nseats:Int)≤seat
     ·rw[show(if ti≤now then 13 else if ow≠tw then 14 else seatE nseats seat:Int)=4 by simp[seatE,st,S0.out,s2]]
      go_enter Tryz.func62,Tryz.ntmps62
      go_wp2
      go_ret
      exact⟨rfl,HB.out⟩
     ·rw[show(if ti≤now then 13 else if ow≠tw then 14 else seatE nseats seat:Int)=0 by simp[seatE,st,S0.out,s1,s2]]
      go_enter Tryz.func62,Tryz.ntmps62
      go_wp2
      go_ret
      exact⟨rfl,HB.out⟩
   ·have t0:(ow !=tw)=true:=by simpa using s0
    rw[show(if ti≤now then 13 else if ow≠tw then 14 else seatE nseats seat:Int)=14 by simp[st,s0]]
    go_enter Tryz.func62,Tryz.ntmps62
    go_wp2
    go_ret
    exact⟨rfl,HB.out⟩
set_option maxHeartbeats 2000000 in
theorem refused8_any {K:Int} (hK:K=8):RfC x0 x1 x2 now V A Q nsec vc nseats ac nqs qc ow ti se sc nn ot ts tw te tp nw seat sec w K (if ti≤now then 13 else if ow≠0 then 14 else seatE nseats seat):=by
 unfold RfC
 have HB:=Lib.hid (bal (o:=.cells #[.int .i64 K,.int .u32 ow,.int .i64 ti,.int .i64 se,.int .i64 sc,.int .i64 nn,.int .u32 ot,.int .u32 ts,.int .u32 tw,.int .u64 te,.int .u64 tp,.int .i64 nw] 46) (ba w (.cells #[.int .i64 x0,.int .i64 x1,.int .i64 x2,.slice V nsec vc,.int .i64 now,.slice A nseats ac,.slice Q nqs qc] 31)))
 subst hK
 by_cases st:ti≤now
 ·rw[show(if ti≤now then 13 else if ow≠0 then 14 else seatE nseats seat:Int)=13 by simp[st]]
  go_enter Tryz.func62,Tryz.ntmps62
  go_wp2
  go_ret
  exact⟨rfl,HB.out⟩
 ·by_cases s0:ow=0
  ·have t0:(ow !=0)=false:=by simpa using s0
   have S0:=Lib.hid s0
   clear s0
   by_cases s1:seat<0
   ·rw[show(if ti≤now then 13 else if ow≠0 then 14 else seatE nseats seat:Int)=4 by simp[seatE,st,S0.out,s1]]
    go_enter Tryz.func62,Tryz.ntmps62
    go_wp2
    go_ret
    exact⟨rfl,HB.out⟩
   ·by_cases s2:(nseats:Int)≤seat
    ·rw[show(if ti≤now then 13 else if ow≠0 then 14 else seatE nseats seat:Int)=4 by simp[seatE,st,S0.out,s2]]
     go_enter Tryz.func62,Tryz.ntmps62
     go_wp2
     go_ret
     exact⟨rfl,HB.out⟩
    ·rw[show(if ti≤now then 13 else if ow≠0 then 14 else seatE nseats seat:Int)=0 by simp[seatE,st,S0.out,s1,s2]]
     go_enter Tryz.func62,Tryz.ntmps62
     go_wp2
     go_ret
     exact⟨rfl,HB.out⟩
  ·have t0:(ow !=0)=true:=by simpa using s0
   rw[show(if ti≤now then 13 else if ow≠0 then 14 else seatE nseats seat:Int)=14 by simp[st,s0]]
   go_enter Tryz.func62,Tryz.ntmps62
   go_wp2
   go_ret
   exact⟨rfl,HB.out⟩
set_option maxHeartbeats 2000000 in
theorem refused9_any {K:Int} (hK:K=9):RfC x0 x1 x2 now V A Q nsec vc nseats ac nqs qc ow ti se sc nn ot ts tw te tp nw seat sec w K (seatE nseats seat):=by
 unfold RfC
 have HB:=Lib.hid (bal (o:=.cells #[.int .i64 K,.int .u32 ow,.int .i64 ti,.int .i64 se,.int .i64 sc,.int .i64 nn,.int .u32 ot,.int .u32 ts,.int .u32 tw,.int .u64 te,.int .u64 tp,.int .i64 nw] 46) (ba w (.cells #[.int .i64 x0,.int .i64 x1,.int .i64 x2,.slice V nsec vc,.int .i64 now,.slice A nseats ac,.slice Q nqs qc] 31)))
 subst hK
 by_cases s1:seat<0
 ·rw[show(seatE nseats seat:Int)=4 by simp[seatE,s1]]
  go_enter Tryz.func62,Tryz.ntmps62
  go_wp2
  go_ret
  exact⟨rfl,HB.out⟩
 ·by_cases s2:(nseats:Int)≤seat
  ·rw[show(seatE nseats seat:Int)=4 by simp[seatE,s2]]
   go_enter Tryz.func62,Tryz.ntmps62
   go_wp2
   go_ret
   exact⟨rfl,HB.out⟩
  ·rw[show(seatE nseats seat:Int)=0 by simp[seatE,s1,s2]]
   go_enter Tryz.func62,Tryz.ntmps62
   go_wp2
   go_ret
   exact⟨rfl,HB.out⟩
set_option maxHeartbeats 4000000 in
theorem refused10_any {K:Int} (hK:K=10∨K=11):RfC x0 x1 x2 now V A Q nsec vc nseats ac nqs qc ow ti se sc nn ot ts tw te tp nw seat sec w K (if ti≤now then 13 else if sec<0∨(nqs:Int)≤sec then 4 else 0):=by
 unfold RfC
 have HB:=Lib.hid (bal (o:=.cells #[.int .i64 K,.int .u32 ow,.int .i64 ti,.int .i64 se,.int .i64 sc,.int .i64 nn,.int .u32 ot,.int .u32 ts,.int .u32 tw,.int .u64 te,.int .u64 tp,.int .i64 nw] 46) (ba w (.cells #[.int .i64 x0,.int .i64 x1,.int .i64 x2,.slice V nsec vc,.int .i64 now,.slice A nseats ac,.slice Q nqs qc] 31)))
 rcases hK with rfl|rfl
 all_goals
  by_cases st:ti≤now
  ·rw[show(if ti≤now then 13 else if sec<0∨(nqs:Int)≤sec then 4 else 0:Int)=13 by simp[st]]
   go_enter Tryz.func62,Tryz.ntmps62
   go_wp2
   go_ret
   exact⟨rfl,HB.out⟩
  ·by_cases s1:sec<0
   ·rw[show(if ti≤now then 13 else if sec<0∨(nqs:Int)≤sec then 4 else 0:Int)=4 by simp[st,s1]]
    go_enter Tryz.func62,Tryz.ntmps62
    go_wp2
    go_ret
    exact⟨rfl,HB.out⟩
   ·by_cases s2:(nqs:Int)≤sec
    ·rw[show(if ti≤now then 13 else if sec<0∨(nqs:Int)≤sec then 4 else 0:Int)=4 by simp[st,s2]]
     go_enter Tryz.func62,Tryz.ntmps62
     go_wp2
     go_ret
     exact⟨rfl,HB.out⟩
    ·rw[show(if ti≤now then 13 else if sec<0∨(nqs:Int)≤sec then 4 else 0:Int)=0 by simp[st,s1,s2]]
     go_enter Tryz.func62,Tryz.ntmps62
     go_wp2
     go_ret
     exact⟨rfl,HB.out⟩
end
theorem refused_any (F:MFrm) (s:Md) (op:MOp) (seat sec:Int) (w:World) (h0:1≤op.kind) (h1:op.kind≤12):
 Calls Tryz.prog 62 #[mdV F s,.agg (opCells op).toArray,.int .i64 seat,.int .i64 sec] w fun e w'=>e=.returned (.int .i64 (refusedM s op seat sec))∧Below w.heap.size w w':=by
 obtain⟨ki,ow,ti,se,sc,nn,ot,⟨ts,tw,te,tp⟩,nw⟩:=op
 simp only at h0 h1
 have H:∀M,RfC s.ve.shards s.ve.ttl s.ve.session s.now F.V F.A F.Q s.ve.secs.length F.vc s.seats.length F.ac s.qs.length F.qc ow ti se sc nn ot ts tw te tp nw seat sec w ki M→M=refusedM s ⟨ki,ow,ti,se,sc,nn,ot,⟨ts,tw,te,tp⟩,nw⟩ seat sec→Calls Tryz.prog 62 #[mdV F s,.agg (opCells ⟨ki,ow,ti,se,sc,nn,ot,⟨ts,tw,te,tp⟩,nw⟩).toArray,.int .i64 seat,.int .i64 sec] w fun e w'=>e=.returned (.int .i64 (refusedM s ⟨ki,ow,ti,se,sc,nn,ot,⟨ts,tw,te,tp⟩,nw⟩ seat sec))∧Below w.heap.size w w':=fun M h e=>by rw[←e];exact h
 have hk:(ki=1∨ki=12)∨(ki=2∨ki=4∨ki=5)∨ki=3∨(ki=6∨ki=7)∨ki=8∨ki=9∨ki=10∨ki=11:=by omega
 rcases hk with hk|hk|hk|hk|hk|hk|hk
 ·refine H _ (refused1_any _ _ _ _ _ _ _ _ _ _ _ _ _ _ _ _ _ _ _ _ _ _ _ _ _ _ _ hk) ?_
  rcases hk with rfl|rfl<;>simp[refusedM]
 ·refine H _ (refused2_any _ _ _ _ _ _ _ _ _ _ _ _ _ _ _ _ _ _ _ _ _ _ _ _ _ _ _ hk) ?_
  rcases hk with rfl|rfl|rfl<;>simp[refusedM]
 ·refine H _ (refused3_any _ _ _ _ _ _ _ _ _ _ _ _ _ _ _ _ _ _ _ _ _ _ _ _ _ _ _ hk) ?_
  subst hk
  simp[refusedM]
 ·refine H _ (refused6_any _ _ _ _ _ _ _ _ _ _ _ _ _ _ _ _ _ _ _ _ _ _ _ _ _ _ _ hk) ?_
  rcases hk with rfl|rfl<;>simp[refusedM]
 ·refine H _ (refused8_any _ _ _ _ _ _ _ _ _ _ _ _ _ _ _ _ _ _ _ _ _ _ _ _ _ _ _ hk) ?_
  subst hk
  simp[refusedM]
 ·refine H _ (refused9_any _ _ _ _ _ _ _ _ _ _ _ _ _ _ _ _ _ _ _ _ _ _ _ _ _ _ _ hk) ?_
  subst hk
  simp[refusedM]
 ·refine H _ (refused10_any _ _ _ _ _ _ _ _ _ _ _ _ _ _ _ _ _ _ _ _ _ _ _ _ _ _ _ hk) ?_
  rcases hk with rfl|rfl<;>simp[refusedM]
end Go.Proofs.YtlckmjiioohcmaaGreatDoor
namespace Go.Proofs.YtlckmjiioohcmaaGreatDoor
open Go.RowKit
structure MdOk (s:Md):Prop where
 ve:(checkV s.ve).2=0
 now:0≤s.now
 seats:(s.seats.length:Int)=sum (allRows s.ve)
 qs:s.qs.length=s.ve.secs.length
 each:∀x∈s.seats,sxCheck x=0
 lists:∀(k:Nat) (l:List Int),s.qs[k]?=some l→(l.length:Int)≤limAt s k∧l.Nodup
theorem twB_nodup:∀(l S:List Int),twB S l=false↔(∀x∈l,x∉S)∧l.Nodup
 |[],S=>by simp[twB]
 |x::l,S=>by
  unfold twB
  rw[Bool.or_eq_false_iff,twB_nodup l (S++[x]),List.nodup_cons]
  constructor
  ·rintro⟨h1,h2,h3⟩
   have h1':x∉S:=by simpa using h1
   refine⟨fun y hy=> ?_,fun hx=> ?_,h3⟩
   ·rcases List.mem_cons.1 hy with rfl|hy
    ·exact h1'
    ·have:=h2 y hy
     simp at this
     exact this.1
   ·have:=h2 x hx
    simp at this
  ·rintro⟨h1,h2,h3⟩
   refine⟨by simpa using h1 x (by simp),fun y hy hm=> ?_,h3⟩
   simp at hm
   rcases hm with hm|rfl
   ·exact h1 y (by simp[hy]) hm
   ·exact h2 hy
theorem qsE_zero:∀(qs:List (List Int)) (secs:List Sec),qs.length=secs.length→
 (qsE qs secs=0↔∀(k:Nat) (l:List Int) (x:Sec),qs[k]?=some l→secs[k]?=some x→(l.length:Int)≤x.queue∧l.Nodup)
 |[],[],_=>by simp[qsE]
 |[],_::_,h=>by simp at h
 |_::_,[],h=>by simp at h
 |l::qs,x::secs,h=>by
  have ih:=qsE_zero qs secs (by simpa using h)
  have ht:=twB_nodup l []
  simp only[List.not_mem_nil,not_false_eq_true,implies_true,true_and] at ht
  unfold qsE
  constructor
  ·intro h0 k l' x' hk hx
   split at h0
   ·exact absurd h0 (by decide)
   rename_i h1
   split at h0
   ·exact absurd h0 (by decide)
   rename_i h2
   cases k with
   |zero=>
    simp at hk hx
    subst hk hx
    exact⟨by omega,ht.1 (by simpa using h2)⟩
   |succ k=>exact ih.1 h0 k l' x' (by simpa using hk) (by simpa using hx)
  ·intro H
   have h0:=H 0 l x rfl rfl
   rw[if_neg (by omega),if_neg (by rw[ht.2 h0.2];decide)]
   exact ih.2 fun k l' x' hk hx=>H (k+1) l' x' (by simpa using hk) (by simpa using hx)
theorem seatsV_zero {x:Ve}:(seatsV x).2=0↔(checkV x).2=0:=by
 unfold seatsV
 split
 ·exact Iff.rfl
 ·rename_i h
  simp only[true_iff]
  exact Decidable.not_not.1 h
theorem seatsV_sum {x:Ve} (h:(checkV x).2=0):seatsV x=(sum (allRows x),0):=by
 unfold seatsV
 rw[if_neg (by simpa using h)]
theorem checkM_ok {s:Md}:checkM s=0↔MdOk s:=by
 unfold checkM
 constructor
 ·intro h
  split at h
  ·rename_i h1;exact absurd h h1
  rename_i h1
  have hv:=seatsV_zero.1 (Decidable.not_not.1 h1)
  rw[seatsV_sum hv] at h
  split at h
  ·exact absurd h (by decide)
  rename_i h2
  split at h
  ·exact absurd h (by decide)
  rename_i h3
  split at h
  ·exact absurd h (by decide)
  rename_i h4
  split at h
  ·exact absurd h (by decide)
  rename_i h5
  have h4':s.qs.length=s.ve.secs.length:=Decidable.not_not.1 h4
  refine⟨hv,by omega,Decidable.not_not.1 h3,h4',fun x hx=> ?_,fun k l hk=> ?_⟩
  ·have h6:s.seats.any (fun x=>sxCheck x !=0)=false:=by simpa using h5
   have:=List.any_eq_false.1 h6 x hx
   simpa using this
  ·have hk':k<s.ve.secs.length:=by rw[←h4'];exact(List.getElem?_eq_some_iff.1 hk).1
   have:=(qsE_zero _ _ h4').1 h k l _ hk (List.getElem?_eq_getElem hk')
   simpa[limAt,List.getElem?_eq_getElem hk'] using this
 ·intro H
  have e:=seatsV_sum H.ve
  have h6:s.seats.any (fun x=>sxCheck x !=0)=false:=List.any_eq_false.2 fun x hx=>by simpa using H.each x hx
  have:=H.now
  rw[if_neg (by rw[e];simp),if_neg (by omega),e,if_neg (by simpa using H.seats),if_neg (by simpa using H.qs),h6,if_neg (by decide)]
  refine(qsE_zero _ _ H.qs).2 fun k l x hk hx=> ?_
  have:=H.lists k l hk
  simpa[limAt,hx] using this
theorem MdOk.len {s:Md} (h:MdOk s):s.seats.length≤4096:=by
 have h1:=(checkV_ok h.ve).2.1
 have h2:=h.seats
 omega
theorem MdOk.nqs {s:Md} (h:MdOk s):s.qs.length≤8:=by rw[h.qs];exact(checkV_ok h.ve).1.1
theorem secs_pos {x:Ve} (h:(checkV x).2=0):0<x.secs.length:=by
 rcases Nat.eq_zero_or_pos x.secs.length with h0|h0
 ·unfold checkV at h
  rw[h0] at h
  split at h<;>simp at h
 ·exact h0
theorem lim_bd {s:Md} (h:(checkV s.ve).2=0) (k:Nat):0≤limAt s k∧limAt s k≤64:=by
 unfold limAt
 split
 ·rename_i x hx
  obtain⟨hk,rfl⟩:=List.getElem?_eq_some_iff.1 hx
  have:=secE_ok ((checkV_ok h).1.2 k hk)
  omega
 ·omega
theorem MdOk.qlen {s:Md} (h:MdOk s):∀l,l∈s.qs→l.length≤64:=fun l hl=>by
 obtain⟨k,hk⟩:=List.getElem?_of_mem hl
 have h1:=(h.lists k l hk).1
 have h2:=(lim_bd h.ve k).2
 omega
theorem placeV_in (x:Ve) (hc:(checkV x).2=0) (seat:Int):0≤(placeV x seat).1.sec∧(placeV x seat).1.sec.toNat<x.secs.length:=by
 have hp:=secs_pos hc
 unfold placeV
 split
 ·exact⟨by simp,by simpa using hp⟩
 ·rename_i h
  obtain⟨_,hm,_,_⟩:=findV_ok (Decidable.not_not.1 h)
  obtain⟨j,hj,k,hk,e1,_⟩:=mem_rws hm
  simp only[e1]
  exact⟨by omega,by simpa using hj⟩
theorem MdOk.laid {s:Md} (h:MdOk s):MdLaid s:=fun i _=>by
 have:=placeV_in s.ve h.ve i
 exact⟨this.1,by rw[h.qs];exact this.2⟩
/-! A seat stays one. -/
theorem sxCheck_hold {x:Sx} {o d:Int} (h:sxCheck x=0):sxCheck (sxHold x o d).1=0:=by
 unfold sxHold
 split
 ·exact h
 ·rename_i h1
  have h2:sxTime x d=0:=by
   have h1:=Decidable.not_not.1 h1
   unfold orE at h1
   split at h1
   ·rename_i h3;exact absurd h1 h3
   ·rename_i h3;exact Decidable.not_not.1 h3
  unfold sxTime at h2
  rw[if_neg (by simpa using h)] at h2
  have h3:¬d<0:=fun h=>by rw[if_pos h] at h2;exact absurd h2 (by decide)
  simp[sxCheck,h3]
theorem sxCheck_expire {x:Sx} {d:Int} (h:sxCheck x=0):sxCheck (sxExpire x d).1=0:=by
 unfold sxExpire
 split
 ·exact h
 ·split
  ·rfl
  ·exact h
theorem sxCheck_issue {x:Sx} {o:Int} (h:sxCheck x=0):sxCheck (sxIssue x o).1=0:=by
 unfold sxIssue
 split
 ·exact h
 ·rfl
theorem sxCheck_release {x:Sx} {o:Int} (h:sxCheck x=0):sxCheck (sxRelease x o).1=0:=by
 unfold sxRelease
 split
 ·exact h
 ·rfl
theorem sxCheck_buy {x:Sx} {o:Int} (h:sxCheck x=0):sxCheck (sxBuy x o).1=0:=by
 unfold sxBuy
 split
 ·exact h
 ·exact sxCheck_issue h
theorem sxCheck_transfer {x:Sx} {t:Tk} {o:Int} (h:sxCheck x=0):sxCheck (sxTransfer x t o).1=0:=by
 unfold sxTransfer
 split
 ·exact h
 ·exact sxCheck_issue h
theorem sxCheck_refund {x:Sx} {t:Tk} (h:sxCheck x=0):sxCheck (sxRefund x t).1=0:=by
 unfold sxRefund
 split
 ·exact h
 ·rfl
theorem sxCheck_revoke {x:Sx} (h:sxCheck x=0):sxCheck (sxRevoke x).1=0:=by
 unfold sxRevoke
 split
 ·exact h
 ·split
  ·exact h
  ·rfl
theorem MdOk.seatAt {s:Md} (h:MdOk s) (k:Nat):sxCheck (seatAt s k)=0:=by
 unfold Go.Proofs.YtlckmjiioohcmaaGreatDoor.seatAt
 rcases Nat.lt_or_ge k s.seats.length with hk|hk
 ·rw[List.getD_eq_getElem?_getD,List.getElem?_eq_getElem hk]
  exact h.each _ (List.getElem_mem hk)
 ·rw[List.getD_eq_getElem?_getD,List.getElem?_eq_none hk]
  rfl
theorem MdOk.set {s:Md} (h:MdOk s) (k:Nat) {x:Sx} (hx:sxCheck x=0):MdOk (setM s k x):=
 ⟨h.ve,h.now,by simpa[setM] using h.seats,h.qs,fun y hy=>by
  rcases List.mem_or_eq_of_mem_set hy with hy|rfl
  ·exact h.each y hy
  ·exact hx,h.lists⟩
theorem MdOk.offer {s:Md} (h:MdOk s) (i:Nat):MdOk (offerM s i):=by
 unfold offerM
 split
 ·rename_i o l hq
  have hs:MdOk {s with seats:=s.seats.set i (sxHold (Go.Proofs.YtlckmjiioohcmaaGreatDoor.seatAt s i) o (untilM s s.ve.ttl)).1}:=h.set i (sxCheck_hold (h.seatAt i))
  refine⟨h.ve,h.now,hs.seats,by simpa using h.qs,hs.each,fun k l' hk=> ?_⟩
  have h1:=h.lists _ _ hq
  by_cases hk':secOf s i=k
  ·subst hk'
   have hlt:=(List.getElem?_eq_some_iff.1 hq).1
   simp only[List.getElem?_set_self hlt] at hk
   injection hk with hk
   subst hk
   rw[List.nodup_cons] at h1
   refine⟨?_,h1.2.2⟩
   have:=h1.1
   simp only[List.length_cons] at this
   show(l.length:Int)≤limAt s _
   omega
  ·simp only[List.getElem?_set_ne hk'] at hk
   exact h.lists k l' hk
 ·exact h
theorem MdOk.freed {s:Md} (h:MdOk s) (k:Nat) {x:Sx} (e:Int) (hx:sxCheck x=0):MdOk (freedM s k x e).1:=by
 unfold freedM
 show MdOk (if e=0 then offerM (setM s k x) k else s)
 split
 ·exact(h.set k hx).offer k
 ·exact h
theorem MdOk.sold {s:Md} (h:MdOk s) (k:Nat) {x:Sx} (e:Int) (hx:sxCheck x=0):MdOk (soldM s k x e).1:=by
 unfold soldM
 split
 ·exact h.set k hx
 ·exact h
theorem MdOk.hold {s:Md} (h:MdOk s) (op:MOp) (k:Nat):MdOk (holdM s op k).1:=by
 unfold holdM
 split
 ·exact h.set k (sxCheck_hold (h.seatAt k))
 ·exact h
theorem MdOk.holds {s:Md} (h:MdOk s) (o t:Int) (f:Nat):∀k,MdOk (holdsM s o t f k)
 |0=>h
 |k+1=>(h.holds o t f k).set _ (sxCheck_hold ((h.holds o t f k).seatAt _))
theorem MdOk.block {s:Md} (h:MdOk s) (op:MOp):MdOk (blockM s op).1:=by
 unfold blockM
 split
 ·exact h
 ·exact h.holds _ _ _ _
theorem listAt_some {s:Md} {k:Nat} {l:List Int} (h:s.qs[k]?=some l):listAt s k=l:=by simp[listAt,h]
theorem MdOk.list {s:Md} (h:MdOk s) {k:Nat} {l:List Int} (hl:(l.length:Int)≤limAt s k) (hn:l.Nodup):MdOk {s with qs:=s.qs.set k l}:=by
 refine⟨h.ve,h.now,h.seats,by simpa using h.qs,h.each,fun j l' hj=> ?_⟩
 by_cases e:k=j
 ·subst e
  rcases Nat.lt_or_ge k s.qs.length with hlt|hge
  ·simp only[List.getElem?_set_self hlt] at hj
   injection hj with hj
   subst hj
   exact⟨hl,hn⟩
  ·rw[List.getElem?_eq_none (by simpa using hge)] at hj
   cases hj
 ·simp only[List.getElem?_set_ne e] at hj
  exact h.lists j l' hj
theorem MdOk.listAt {s:Md} (h:MdOk s) (k:Nat):((listAt s k).length:Int)≤limAt s k∧(listAt s k).Nodup:=by
 rcases Nat.lt_or_ge k s.qs.length with hlt|hge
 ·have h1:=List.getElem?_eq_getElem hlt
  rw[listAt_some h1]
  exact h.lists k _ h1
 ·have:Go.Proofs.YtlckmjiioohcmaaGreatDoor.listAt s k=[]:=by simp[Go.Proofs.YtlckmjiioohcmaaGreatDoor.listAt,List.getElem?_eq_none hge]
  rw[this]
  exact⟨(lim_bd h.ve k).1,List.nodup_nil⟩
theorem MdOk.join {s:Md} (h:MdOk s) (op:MOp) (k:Nat):MdOk (joinM s op k).1:=by
 unfold joinM
 split
 ·exact h
 rename_i h1
 split
 ·exact h
 rename_i h2
 refine h.list (by simp only[List.length_append,List.length_cons,List.length_nil];omega) ?_
 rw[List.nodup_append]
 refine⟨(h.listAt k).2,by simp,fun x hx y hy e=> ?_⟩
 simp at hy
 subst hy e
 exact h2 (List.any_eq_true.2 ⟨_,hx,by simp⟩)
theorem MdOk.leave {s:Md} (h:MdOk s) (op:MOp) (k:Nat):MdOk (leaveM s op k).1:=by
 unfold leaveM
 split
 ·exact h
 refine h.list ?_ ?_
 ·have h1:=(h.listAt k).1
  have h2:=List.length_eraseIdx_le (Go.Proofs.YtlckmjiioohcmaaGreatDoor.listAt s k) (idxOf (fun x=>op.owner==x) (Go.Proofs.YtlckmjiioohcmaaGreatDoor.listAt s k)).toNat
  omega
 ·exact(h.listAt k).2.sublist (List.eraseIdx_sublist _ _)
theorem MdOk.expire {s:Md} (h:MdOk s) (i:Nat):MdOk (expireM s i):=(h.set i (sxCheck_expire (h.seatAt i))).offer i
theorem MdOk.foldE:∀(l:List Int) {s:Md},MdOk s→MdOk (l.foldl (fun s x=>expireM s x.toNat) s)
 |[],_,h=>h
 |x::l,_,h=>MdOk.foldE l (h.expire x.toNat)
theorem MdOk.tick {s:Md} (h:MdOk s) (op:MOp):MdOk (tickM s op).1:=by
 unfold tickM
 split
 ·exact h
 ·rename_i h1
  have h0:MdOk {s with now:=op.now}:=⟨h.ve,by have:=h.now;show 0≤op.now;omega,h.seats,h.qs,h.each,h.lists⟩
  exact MdOk.foldE _ h0
end Go.Proofs.YtlckmjiioohcmaaGreatDoor
namespace Go.Proofs.YtlckmjiioohcmaaGreatDoor
open Go.RowKit
theorem heap_new2 (w:World) (o:Obj):(w.alloc o).heap[w.heap.size]?=some o:=by show(w.heap.push o)[w.heap.size]?=_;simp
theorem box_row2 (w:World) (old:Array Value) (cs:List Value) (t:TypeId):Below w.heap.size w ((w.alloc (.cells old t)).setRow w.heap.size cs.toArray)∧Cells ((w.alloc (.cells old t)).setRow w.heap.size cs.toArray) w.heap.size cs:=by
 have hg:(w.alloc (.cells old t)).heap[w.heap.size]?=some (.cells old t (0,0)):=heap_new2 w _
 have hn:=setRow_heap _ _ old cs.toArray t _ hg
 refine⟨below_setRow (ba _ _) (Nat.le_refl _) _,fun j u hu=> ?_,fun j=> ?_,by simp⟩
 ·have h:=cell_setRow_same _ _ j old cs.toArray t _ hg
  rw[h];simpa using hu
 ·unfold World.frozen?;dsimp only;rw[hn];simp
def fnV (f:FuncId):Value:=.func (.func f) #[] #[]
def doesL:List Value:=[.nilFunc,fnV 95,fnV 96,fnV 97,fnV 98,fnV 99,fnV 100,fnV 101,fnV 102,fnV 103,fnV 104,fnV 105,fnV 106]
def nilsL:List Value:=List.replicate 13 .nilFunc
theorem does_any (w:World):Calls Tryz.prog 64 #[] w fun e w'=>e=.returned (.agg doesL.toArray)∧Below w.heap.size w w':=by
 have HL:=Lib.hid (show(Tryz.prog.info? 128).map (·.size)=some doesL.toArray.size by kernel_rfl)
 have HO:=Lib.hid (show doesL.toArray.all (·.oneCell')=true by simp[doesL,fnV,Value.oneCell'])
 go_enter Tryz.func64,Tryz.ntmps64
 go_wp2_with (refine wpList_store_row rfl 128 (.tmp 0) (.tmp 1) rfl w.heap.size doesL.toArray rfl rfl 128 nilsL.toArray (heap_new2 w _) HL.out rfl HO.out ?_)
 refine at_world (fun W=>Below w.heap.size w W∧Cells W w.heap.size doesL) (box_row2 w _ _ _) fun w9 ⟨hb9,k9⟩=> ?_
 have g0:=k9.c 0 _ rfl
 have g1:=k9.c 1 _ rfl
 have g2:=k9.c 2 _ rfl
 have g3:=k9.c 3 _ rfl
 have g4:=k9.c 4 _ rfl
 have g5:=k9.c 5 _ rfl
 have g6:=k9.c 6 _ rfl
 have g7:=k9.c 7 _ rfl
 have g8:=k9.c 8 _ rfl
 have g9:=k9.c 9 _ rfl
 have g10:=k9.c 10 _ rfl
 have g11:=k9.c 11 _ rfl
 have g12:=k9.c 12 _ rfl
 exact bodyPost_ret (v:=.agg doesL.toArray) (by simp[doesL,results,Tryz.results64,go_sem,g0,g1,g2,g3,g4,g5,g6,g7,g8,g9,g10,g11,g12]) rfl ⟨rfl,hb9⟩
def opM (s:Md) (op:MOp) (k:Nat):Md×MRp:=
 if op.kind=1 then openM s else if op.kind=2 then holdM s op k else if op.kind=3 then blockM s op else if op.kind=4 then releaseM s op k
 else if op.kind=5 then buyM s op k else if op.kind=6 then transferM s op k else if op.kind=7 then refundM s op k else if op.kind=8 then revokeM s k
 else if op.kind=9 then validateM s op k else if op.kind=10 then joinM s op op.section_.toNat else if op.kind=11 then leaveM s op op.section_.toNat else tickM s op
def doM (s:Md) (op:MOp):Md×MRp×Int:=
 if(targetM op).2.2≠0 then(s,noRp,(targetM op).2.2)
 else if refusedM s op (targetM op).1 (targetM op).2.1≠0 then(s,{noRp with err:=refusedM s op (targetM op).1 (targetM op).2.1},0)
 else if(opM s op (targetM op).1.toNat).2.err≠0 then(s,(opM s op (targetM op).1.toNat).2,0) else((opM s op (targetM op).1.toNat).1,(opM s op (targetM op).1.toNat).2,0)
theorem MdOk.op {s:Md} (h:MdOk s) (op:MOp) (k:Nat):MdOk (opM s op k).1:=by
 have ho:=h.seatAt k
 unfold opM
 by_cases h1:op.kind=1
 ·rw[if_pos h1];exact h
 rw[if_neg h1]
 by_cases h1:op.kind=2
 ·rw[if_pos h1];exact h.hold op k
 rw[if_neg h1]
 by_cases h1:op.kind=3
 ·rw[if_pos h1];exact h.block op
 rw[if_neg h1]
 by_cases h1:op.kind=4
 ·rw[if_pos h1];exact h.freed k _ (sxCheck_release ho)
 rw[if_neg h1]
 by_cases h1:op.kind=5
 ·rw[if_pos h1];exact h.sold k _ (sxCheck_buy ho)
 rw[if_neg h1]
 by_cases h1:op.kind=6
 ·rw[if_pos h1];exact h.sold k _ (sxCheck_transfer ho)
 rw[if_neg h1]
 by_cases h1:op.kind=7
 ·rw[if_pos h1];exact h.freed k _ (sxCheck_refund ho)
 rw[if_neg h1]
 by_cases h1:op.kind=8
 ·rw[if_pos h1];exact h.freed k _ (sxCheck_revoke ho)
 rw[if_neg h1]
 by_cases h1:op.kind=9
 ·rw[if_pos h1];exact h
 rw[if_neg h1]
 by_cases h1:op.kind=10
 ·rw[if_pos h1];exact h.join op _
 rw[if_neg h1]
 by_cases h1:op.kind=11
 ·rw[if_pos h1];exact h.leave op _
 rw[if_neg h1]
 exact h.tick op
theorem MdOk.do_ {s:Md} (h:MdOk s) (op:MOp):MdOk (doM s op).1:=by
 unfold doM
 split
 ·exact h
 split
 ·exact h
 split
 ·exact h
 ·exact h.op op _
theorem target_seat {op:MOp} (h:(targetM op).2.2=0) (hk:op.kind=2∨op.kind=4∨op.kind=5∨op.kind=8):targetM op=(op.seat,-1,0):=by
 unfold targetM at h⊢
 by_cases hp:plCheckM op≠0
 ·rw[if_pos hp] at h;exact absurd h hp
 ·rw[if_neg hp]
  rcases hk with h|h|h|h<;>rw[h,if_pos (by decide)]
theorem target_tk {op:MOp} (h:(targetM op).2.2=0) (hk:op.kind=6∨op.kind=7∨op.kind=9):targetM op=(op.tk.seat,-1,0):=by
 unfold targetM at h⊢
 by_cases hp:plCheckM op≠0
 ·rw[if_pos hp] at h;exact absurd h hp
 ·rw[if_neg hp]
  rcases hk with h|h|h<;>rw[h,if_neg (by decide),if_pos (by decide)]
theorem target_sec {op:MOp} (h:(targetM op).2.2=0) (hk:op.kind=3∨op.kind=10∨op.kind=11):targetM op=(-1,op.section_,0):=by
 unfold targetM at h⊢
 by_cases hp:plCheckM op≠0
 ·rw[if_pos hp] at h;exact absurd h hp
 ·rw[if_neg hp]
  rcases hk with h|h|h<;>rw[h,if_neg (by decide),if_neg (by decide),if_pos (by decide)]
theorem target_kind {op:MOp} (h:(targetM op).2.2=0):1≤op.kind∧op.kind≤12:=by
 unfold targetM at h
 by_cases hp:plCheckM op≠0
 ·rw[if_pos hp] at h;exact absurd h hp
 ·exact plCheckM_ok (Decidable.not_not.1 hp)
theorem seatE_ok {n:Nat} {seat:Int} (h:seatE n seat=0):∃k:Nat,seat=(k:Int)∧k<n:=by
 unfold seatE at h
 split at h
 ·exact absurd h (by decide)
 ·exact⟨seat.toNat,by omega,by omega⟩
structure Disp (k:Int) (f:FuncId):Prop where
 idx:∀w,(Instr.index 128 (.agg doesL.toArray) (.int .i64 k)).run Tryz.prog w=.ok (fnV f) w
 ent:∀args w,(callFunc f args).run Tryz.prog w=.ok (.enter f args) w
theorem refused_seat {s:Md} {op:MOp} (hr:refusedM s op (targetM op).1 (targetM op).2.1=0) (hk:op.kind≠1∧op.kind≠3∧op.kind≠10∧op.kind≠11∧op.kind≠12):∃k:Nat,(targetM op).1=(k:Int)∧k<s.seats.length:=by
 unfold refusedM at hr
 rw[if_neg (by omega)] at hr
 split at hr
 ·exact absurd hr (by decide)
 split at hr
 ·split at hr
  ·exact absurd hr (by decide)
  ·exact seatE_ok hr
 split at hr
 ·split at hr
  ·exact absurd hr (by decide)
  ·exact seatE_ok hr
 rw[if_neg (by omega)] at hr
 exact seatE_ok hr
theorem refused_sec {s:Md} {op:MOp} (ht:(targetM op).2.2=0) (hr:refusedM s op (targetM op).1 (targetM op).2.1=0) (hk:op.kind=3∨op.kind=10∨op.kind=11):∃k:Nat,op.section_=(k:Int)∧k<s.qs.length:=by
 rw[target_sec ht hk] at hr
 unfold refusedM at hr
 rw[if_neg (by omega)] at hr
 split at hr
 ·exact absurd hr (by decide)
 have h8:¬op.kind=8:=by omega
 have h67:¬(op.kind=6∨op.kind=7):=by omega
 rw[if_neg h8,if_neg h67] at hr
 split at hr
 ·exact absurd hr (by decide)
 ·simp only at*
  exact⟨op.section_.toNat,by omega,by omega⟩
theorem disp_any (w0:World) (g a ac b:Nat) (V:Option Addr) (vc:Nat) (s:Md) (op:MOp) (hok:MdOk s) (ht:(targetM op).2.2=0) (hr:refusedM s op (targetM op).1 (targetM op).2.1=0):
 ∃f,Disp op.kind f∧∀(W:World) (cs:List Value),Off w0 W g a ac b V vc cs s op (targetM op).1→QOwn w0.heap.size W cs s.qs→
  Calls Tryz.prog f #[.pointer (some ⟨g,0,none⟩)] W (OpPost2 w0 W g a ac b V vc op (targetM op).1 (opM s op (targetM op).1.toNat)):=by
 obtain⟨h0,h1⟩:=target_kind ht
 have hlen:s.seats.length≤1000000:=by have:=hok.len;omega
 have hl:=hok.laid
 have HS:= @refused_seat s op hr
 have HC:= @refused_sec s op ht hr
 have hcase:op.kind=1∨op.kind=2∨op.kind=3∨op.kind=4∨op.kind=5∨op.kind=6∨op.kind=7∨op.kind=8∨op.kind=9∨op.kind=10∨op.kind=11∨op.kind=12:=by omega
 rcases hcase with h|h|h|h|h|h|h|h|h|h|h|h
 ·refine⟨95,⟨fun w=>by rw[h];kernel_rfl,enters_fn Tryz.func95 (by kernel_rfl) rfl⟩,fun W cs H hq=> ?_⟩
  rw[show opM s op (targetM op).1.toNat=openM s by simp[opM,h]]
  exact(open_any H).mono fun _ _ h=>h.two H
 ·obtain⟨k,hk,hlt⟩:=HS (by omega)
  refine⟨96,⟨fun w=>by rw[h];kernel_rfl,enters_fn Tryz.func96 (by kernel_rfl) rfl⟩,fun W cs H hq=> ?_⟩
  rw[hk] at H⊢
  rw[show opM s op ((k:Int).toNat)=holdM s op k by simp[opM,h]]
  exact(hold_any H hlt).mono fun _ _ h=>h.two H
 ·refine⟨97,⟨fun w=>by rw[h];kernel_rfl,enters_fn Tryz.func97 (by kernel_rfl) rfl⟩,fun W cs H hq=> ?_⟩
  rw[show opM s op (targetM op).1.toNat=blockM s op by simp[opM,h]]
  exact(block_any H hlen).mono fun _ _ h=>h.two H
 ·obtain⟨k,hk,hlt⟩:=HS (by omega)
  refine⟨98,⟨fun w=>by rw[h];kernel_rfl,enters_fn Tryz.func98 (by kernel_rfl) rfl⟩,fun W cs H hq=> ?_⟩
  rw[hk] at H⊢
  rw[show opM s op ((k:Int).toNat)=releaseM s op k by simp[opM,h]]
  exact(release_any H hlt (hl k hlt).1 (hl k hlt).2).mono fun _ _ h=>h.two H
 ·obtain⟨k,hk,hlt⟩:=HS (by omega)
  refine⟨99,⟨fun w=>by rw[h];kernel_rfl,enters_fn Tryz.func99 (by kernel_rfl) rfl⟩,fun W cs H hq=> ?_⟩
  rw[hk] at H⊢
  rw[show opM s op ((k:Int).toNat)=buyM s op k by simp[opM,h]]
  exact(buy_any H hlt (by omega)).mono fun _ _ h=>h.two H
 ·obtain⟨k,hk,hlt⟩:=HS (by omega)
  refine⟨100,⟨fun w=>by rw[h];kernel_rfl,enters_fn Tryz.func100 (by kernel_rfl) rfl⟩,fun W cs H hq=> ?_⟩
  rw[hk] at H⊢
  rw[show opM s op ((k:Int).toNat)=transferM s op k by simp[opM,h]]
  exact(transfer_any H hlt (by omega)).mono fun _ _ h=>h.two H
 ·obtain⟨k,hk,hlt⟩:=HS (by omega)
  refine⟨101,⟨fun w=>by rw[h];kernel_rfl,enters_fn Tryz.func101 (by kernel_rfl) rfl⟩,fun W cs H hq=> ?_⟩
  rw[hk] at H⊢
  rw[show opM s op ((k:Int).toNat)=refundM s op k by simp[opM,h]]
  exact(refund_any H hlt (hl k hlt).1 (hl k hlt).2).mono fun _ _ h=>h.two H
 ·obtain⟨k,hk,hlt⟩:=HS (by omega)
  refine⟨102,⟨fun w=>by rw[h];kernel_rfl,enters_fn Tryz.func102 (by kernel_rfl) rfl⟩,fun W cs H hq=> ?_⟩
  rw[hk] at H⊢
  rw[show opM s op ((k:Int).toNat)=revokeM s k by simp[opM,h]]
  exact(revoke_any H hlt (hl k hlt).1 (hl k hlt).2).mono fun _ _ h=>h.two H
 ·obtain⟨k,hk,hlt⟩:=HS (by omega)
  refine⟨103,⟨fun w=>by rw[h];kernel_rfl,enters_fn Tryz.func103 (by kernel_rfl) rfl⟩,fun W cs H hq=> ?_⟩
  rw[hk] at H⊢
  rw[show opM s op ((k:Int).toNat)=validateM s op k by simp[opM,h]]
  exact(validate_any H hlt).mono fun _ _ h=>h.two H
 ·obtain⟨k,hk,hlt⟩:=HC (by omega)
  refine⟨104,⟨fun w=>by rw[h];kernel_rfl,enters_fn Tryz.func104 (by kernel_rfl) rfl⟩,fun W cs H hq=> ?_⟩
  rw[show opM s op (targetM op).1.toNat=joinM s op k by simp[opM,h,hk]]
  obtain⟨A,c,hQ⟩:=QOne.of hq hlt
  exact join_any H hQ (List.getElem?_eq_getElem hlt) hlt (by rw[←hok.qs];exact hlt) hk (by have:=hok.qlen _ (List.getElem_mem hlt);omega)
 ·obtain⟨k,hk,hlt⟩:=HC (by omega)
  refine⟨105,⟨fun w=>by rw[h];kernel_rfl,enters_fn Tryz.func105 (by kernel_rfl) rfl⟩,fun W cs H hq=> ?_⟩
  rw[show opM s op (targetM op).1.toNat=leaveM s op k by simp[opM,h,hk]]
  obtain⟨A,c,hQ⟩:=QOne.of hq hlt
  exact leave_any H hQ (List.getElem?_eq_getElem hlt) hlt hk (by have:=hok.qlen _ (List.getElem_mem hlt);omega)
 ·refine⟨106,⟨fun w=>by rw[h];kernel_rfl,enters_fn Tryz.func106 (by kernel_rfl) rfl⟩,fun W cs H hq=> ?_⟩
  rw[show opM s op (targetM op).1.toNat=tickM s op by simp[opM,h]]
  exact(tick_any H hl hlen).mono fun _ _ h=>h.two H
end Go.Proofs.YtlckmjiioohcmaaGreatDoor

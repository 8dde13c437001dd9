/-
  What a seat comes to, and what operations keep: the plain law of ModelKeeps and ModelOne. Conditions: none.
  What becomes of freed seats and of waiters: the plain law of ModelWaits and ModelTicks. Conditions: none.
-/
import Derived.Test.YtlckmjiioohcmaaGreatDoorMdY
namespace Go.Proofs.YtlckmjiioohcmaaGreatDoor
open Go.RowKit
def Later (x y:Sx):Prop:=y=x∨x.serial<y.serial∨(x.serial=y.serial∧y.state≠2)
theorem Later.refl (x:Sx):Later x x:=.inl rfl
theorem Later.ser {x y:Sx} (h:Later x y):x.serial≤y.serial:=by
 rcases h with rfl|h|⟨h,_⟩<;>omega
theorem Later.trans {x y z:Sx} (h:Later x y) (k:Later y z):Later x z:=by
 rcases k with rfl|k|⟨k1,k2⟩
 ·exact h
 ·exact .inr (.inl (Int.lt_of_le_of_lt h.ser k))
 ·rcases Int.lt_or_eq_of_le h.ser with h1|h1
  ·exact .inr (.inl (by omega))
  ·exact .inr (.inr ⟨by omega,k2⟩)
theorem later_open (x:Sx):Later x (sxOpen x):=.inr (.inr ⟨rfl,by simp[sxOpen]⟩)
theorem later_hold (x:Sx) (o d:Int):Later x (sxHold x o d).1:=by
 unfold sxHold
 split
 ·exact .refl x
 ·exact .inr (.inr ⟨rfl,by simp⟩)
theorem later_expire (x:Sx) (n:Int):Later x (sxExpire x n).1:=by
 unfold sxExpire
 split
 ·exact .refl x
 ·split
  ·exact later_open x
  ·exact .refl x
theorem later_issue (x:Sx) (o:Int):Later x (sxIssue x o).1:=by
 unfold sxIssue
 split
 ·exact .refl x
 ·exact .inr (.inl (by simp only;omega))
theorem later_release (x:Sx) (o:Int):Later x (sxRelease x o).1:=by
 unfold sxRelease
 split
 ·exact .refl x
 ·exact later_open x
theorem later_buy (x:Sx) (o:Int):Later x (sxBuy x o).1:=by
 unfold sxBuy
 split
 ·exact .refl x
 ·exact later_issue x o
theorem later_transfer (x:Sx) (t:Tk) (o:Int):Later x (sxTransfer x t o).1:=by
 unfold sxTransfer
 split
 ·exact .refl x
 ·exact later_issue x o
theorem later_refund (x:Sx) (t:Tk):Later x (sxRefund x t).1:=by
 unfold sxRefund
 split
 ·exact .refl x
 ·exact later_open x
theorem later_revoke (x:Sx):Later x (sxRevoke x).1:=by
 unfold sxRevoke
 split
 ·exact .refl x
 ·split
  ·exact .refl x
  ·exact .inr (.inr ⟨rfl,by simp[sxOpen]⟩)
def LaterM (s s':Md):Prop:=s'.seats.length=s.seats.length∧∀i,Later (seatAt s i) (seatAt s' i)
theorem LaterM.refl (s:Md):LaterM s s:=⟨rfl,fun _=> .refl _⟩
theorem LaterM.trans {s t u:Md} (h:LaterM s t) (k:LaterM t u):LaterM s u:=⟨k.1.trans h.1,fun i=>(h.2 i).trans (k.2 i)⟩
theorem LaterM.eq {s s':Md} (h:s'.seats=s.seats):LaterM s s':=⟨by rw[h],fun i=>by unfold seatAt;rw[h];exact .refl _⟩
theorem seatAt_set {s:Md} {k i:Nat} {x:Sx}:seatAt (setM s k x) i=if k=i∧i<s.seats.length then x else seatAt s i:=by
 unfold seatAt setM
 simp only[List.getD_eq_getElem?_getD,List.getElem?_set]
 by_cases h1:k=i
 ·subst h1
  by_cases h2:k<s.seats.length
  ·simp[h2]
  ·simp[h2]
 ·simp[h1]
theorem LaterM.set {s:Md} (k:Nat) {x:Sx} (h:Later (seatAt s k) x):LaterM s (setM s k x):=⟨by simp[setM],fun i=>by
 rw[seatAt_set]
 split
 ·rename_i h1
  rw[←h1.1]
  exact h
 ·exact .refl _⟩
theorem LaterM.offer (s:Md) (i:Nat):LaterM s (offerM s i):=by
 unfold offerM
 split
 ·have h:=LaterM.set i (later_hold (seatAt s i) ‹Int› (untilM s s.ve.ttl))
  exact h.trans (.eq rfl)
 ·exact .refl s
theorem LaterM.freed {s:Md} (k:Nat) {x:Sx} (e:Int) (h:Later (seatAt s k) x):LaterM s (freedM s k x e).1:=by
 unfold freedM
 show LaterM s (if e=0 then offerM (setM s k x) k else s)
 split
 ·exact(LaterM.set k h).trans (.offer _ _)
 ·exact .refl s
theorem LaterM.sold {s:Md} (k:Nat) {x:Sx} (e:Int) (h:Later (seatAt s k) x):LaterM s (soldM s k x e).1:=by
 unfold soldM
 split
 ·exact .set k h
 ·exact .refl s
theorem LaterM.hold (s:Md) (op:MOp) (k:Nat):LaterM s (holdM s op k).1:=by
 unfold holdM
 split
 ·exact .set k (later_hold _ _ _)
 ·exact .refl s
theorem LaterM.holds (s:Md) (o t:Int) (f:Nat):∀k,LaterM s (holdsM s o t f k)
 |0=> .refl s
 |k+1=>(LaterM.holds s o t f k).trans (.set _ (later_hold _ _ _))
theorem LaterM.block (s:Md) (op:MOp):LaterM s (blockM s op).1:=by
 unfold blockM
 split
 ·exact .refl s
 ·exact .holds _ _ _ _ _
theorem LaterM.expire (s:Md) (i:Nat):LaterM s (expireM s i):=(LaterM.set i (later_expire _ _)).trans (.offer _ _)
theorem LaterM.foldE:∀(l:List Int) (s:Md),LaterM s (l.foldl (fun s x=>expireM s x.toNat) s)
 |[],s=> .refl s
 |x::l,s=>(LaterM.expire s x.toNat).trans (LaterM.foldE l _)
theorem LaterM.tick (s:Md) (op:MOp):LaterM s (tickM s op).1:=by
 unfold tickM
 split
 ·exact .refl s
 ·exact(LaterM.eq (s:=s) (s':={s with now:=op.now}) rfl).trans (.foldE _ _)
theorem opM_kinds {C:Md×MRp→Prop} (s:Md) (op:MOp) (k:Nat) (h1:op.kind=1→C (openM s)) (h2:op.kind=2→C (holdM s op k)) (h3:op.kind=3→C (blockM s op)) (h4:op.kind=4→C (releaseM s op k)) (h5:op.kind=5→C (buyM s op k))
 (h6:op.kind=6→C (transferM s op k)) (h7:op.kind=7→C (refundM s op k)) (h8:op.kind=8→C (revokeM s k)) (h9:op.kind=9→C (validateM s op k)) (h10:op.kind=10→C (joinM s op op.section_.toNat)) (h11:op.kind=11→C (leaveM s op op.section_.toNat))
 (h12:(∀j:Nat,1≤j→j≤11→op.kind≠(j:Int))→C (tickM s op)):C (opM s op k):=by
 unfold opM
 split
 ·exact h1 ‹_›
 split
 ·exact h2 ‹_›
 split
 ·exact h3 ‹_›
 split
 ·exact h4 ‹_›
 split
 ·exact h5 ‹_›
 split
 ·exact h6 ‹_›
 split
 ·exact h7 ‹_›
 split
 ·exact h8 ‹_›
 split
 ·exact h9 ‹_›
 split
 ·exact h10 ‹_›
 split
 ·exact h11 ‹_›
 ·exact h12 fun j _ _=>by omega
theorem LaterM.op (s:Md) (op:MOp) (k:Nat):LaterM s (opM s op k).1:=
 opM_kinds (C:=fun M=>LaterM s M.1) s op k (fun _=> .refl s) (fun _=> .hold s op k) (fun _=> .block s op) (fun _=> .freed k _ (later_release _ _)) (fun _=> .sold k _ (later_buy _ _)) (fun _=> .sold k _ (later_transfer _ _ _))
  (fun _=> .freed k _ (later_refund _ _)) (fun _=> .freed k _ (later_revoke _)) (fun _=> .refl s) (fun _=>by unfold joinM;split;exact .refl s;split;exact .refl s;exact .eq rfl) (fun _=>by unfold leaveM;split;exact .refl s;exact .eq rfl) (fun _=> .tick s op)
theorem LaterM.do_ (s:Md) (op:MOp):LaterM s (doM s op).1:=by
 unfold doM
 split
 ·exact .refl s
 split
 ·exact .refl s
 split
 ·exact .refl s
 ·exact .op s op _
/-! What is replied with an error,and what changes nothing. -/
theorem opM_err {s:Md} {op:MOp} {k:Nat} (h:(opM s op k).2.err≠0):(opM s op k).2={noRp with err:=(opM s op k).2.err}:=by
 revert h
 refine opM_kinds (C:=fun M=>M.2.err≠0→M.2={noRp with err:=M.2.err}) s op k (fun _ h=>absurd rfl h) (fun _=> ?_) (fun _=> ?_) (fun _ _=>rfl) (fun _=> ?_) (fun _=> ?_) (fun _ _=>rfl) (fun _ _=>rfl) (fun _ _=>rfl) (fun _=> ?_) (fun _=> ?_) (fun _=> ?_)
 ·unfold holdM
  split
  ·intro h;exact absurd rfl h
  ·intro _;rfl
 ·unfold blockM
  split
  ·intro _;rfl
  ·intro h;exact absurd rfl h
 ·unfold buyM soldM
  split
  ·intro h;exact absurd rfl h
  ·intro _;rfl
 ·unfold transferM soldM
  split
  ·intro h;exact absurd rfl h
  ·intro _;rfl
 ·unfold joinM
  split
  ·intro _;rfl
  split
  ·intro _;rfl
  ·intro h;exact absurd rfl h
 ·unfold leaveM
  split
  ·intro _;rfl
  ·intro h;exact absurd rfl h
 ·unfold tickM
  split
  ·intro _;rfl
  ·intro h;exact absurd rfl h
theorem doM_keeps (s:Md) (op:MOp) (h:(doM s op).2.2≠0∨(doM s op).2.1.err≠0∨op.kind=1∨op.kind=9):(doM s op).1=s:=by
 revert h
 unfold doM
 split
 ·intro _;rfl
 split
 ·intro _;rfl
 split
 ·intro _;rfl
 ·rename_i h0
  have h0':=Decidable.not_not.1 h0
  intro h
  rcases h with h|h|h|h
  ·exact absurd rfl h
  ·exact absurd h0' h
  ·simp[opM,h,openM]
  ·simp[opM,h,validateM]
theorem doM_bare (s:Md) (op:MOp) (h:(doM s op).2.1.err≠0):(doM s op).2.1={noRp with err:=(doM s op).2.1.err}:=by
 revert h
 unfold doM
 split
 ·intro h;exact absurd rfl h
 split
 ·intro _;rfl
 split
 ·intro h;exact opM_err h
 ·rename_i h0
  intro h;exact absurd h h0
/-! Tickets. -/
def validM (s:Md) (t:Tk):Bool:=decide (0≤t.seat∧t.seat<s.seats.length∧sxValid (seatAt s t.seat.toNat) t=0)
theorem validM_seat {s:Md} {t:Tk} (h:validM s t=true):0≤t.seat∧t.seat<s.seats.length∧(seatAt s t.seat.toNat).state=2∧t.owner=(seatAt s t.seat.toNat).owner∧t.serial=(seatAt s t.seat.toNat).serial∧t.epoch=(seatAt s t.seat.toNat).epoch:=by
 unfold validM at h
 have h:=of_decide_eq_true h
 refine⟨h.1,h.2.1, ?_⟩
 have h2:=h.2.2
 unfold sxValid at h2
 split at h2
 ·rename_i h3;exact absurd h2 h3
 rename_i h3
 split at h2
 ·rename_i h4
  have h3:=Decidable.not_not.1 h3
  unfold sxState at h3
  split at h3
  ·rename_i h5;exact absurd h3 h5
  split at h3
  ·exact absurd h3 (by decide)
  ·rename_i h5
   exact⟨Decidable.not_not.1 h5,h4⟩
 ·exact absurd h2 (by decide)
structure Held1 (s:Md) (all:List Tk):Prop where
 each:∀t∈all,0≤t.seat∧t.seat<s.seats.length∧t.serial≤(seatAt s t.seat.toNat).serial
 ord:∀n k,(hn:n<k)→(hk:k<all.length)→(all[n]'(by omega)).seat=all[k].seat→(all[n]'(by omega)).serial<all[k].serial
theorem Held1.nil (s:Md):Held1 s []:=⟨fun _ h=>by simp at h,fun n k hn hk=>by simp at hk⟩
theorem issue_new {x:Sx} {o:Int} (h:(sxIssue x o).2=0):(sxIssue x o).1=⟨2,o,0,x.serial+1,x.epoch⟩:=by
 unfold sxIssue at h⊢
 split at h
 ·exact absurd (show(17:Int)=0 from h) (by decide)
 ·rename_i h1
  rw[if_neg h1]
theorem buy_new {x:Sx} {o:Int} (h:(sxBuy x o).2=0):(sxBuy x o).1=⟨2,o,0,x.serial+1,x.epoch⟩:=by
 unfold sxBuy at h⊢
 split at h
 ·rename_i h1;exact absurd h h1
 ·rename_i h1
  rw[if_neg h1]
  exact issue_new h
theorem transfer_new {x:Sx} {t:Tk} {o:Int} (h:(sxTransfer x t o).2=0):(sxTransfer x t o).1=⟨2,o,0,x.serial+1,x.epoch⟩:=by
 unfold sxTransfer at h⊢
 split at h
 ·rename_i h1;exact absurd h h1
 ·rename_i h1
  rw[if_neg h1]
  exact issue_new h
theorem ticket_sold (o s e k:Int):sxTicket ⟨2,o,0,s,e⟩ k=(⟨k,o,s,e⟩,0):=rfl
theorem seatAt_set_self {s:Md} {k:Nat} (hk:k<s.seats.length) (x:Sx):seatAt (setM s k x) k=x:=by rw[seatAt_set,if_pos ⟨rfl,hk⟩]
theorem op_new {s:Md} {op:MOp} {k:Nat} (h:(opM s op k).2.tk≠noTk) (hk:op.kind=5∨op.kind=6→k<s.seats.length):
 k<s.seats.length∧(opM s op k).2.tk.seat=(k:Int)∧(opM s op k).2.tk.serial=(seatAt (opM s op k).1 k).serial∧(seatAt s k).serial<(opM s op k).2.tk.serial:=by
 revert h
 refine opM_kinds (C:=fun M=>M.2.tk≠noTk→k<s.seats.length∧M.2.tk.seat=(k:Int)∧M.2.tk.serial=(seatAt M.1 k).serial∧(seatAt s k).serial<M.2.tk.serial) s op k (fun _ h=>absurd rfl h) (fun _=> ?_) (fun _=> ?_) (fun _ h=>absurd rfl h) (fun hk5=> ?_) (fun hk6=> ?_) (fun _ h=>absurd rfl h) (fun _ h=>absurd rfl h) (fun _ h=>absurd rfl h) (fun _=> ?_) (fun _=> ?_) (fun _=> ?_)
 ·unfold holdM
  split<;>(intro h;exact absurd rfl h)
 ·unfold blockM
  split<;>(intro h;exact absurd rfl h)
 ·have hl:=hk (.inl hk5)
  unfold buyM soldM
  split
  ·rename_i h0
   intro _
   rw[buy_new h0,ticket_sold]
   exact⟨hl,rfl,by rw[seatAt_set_self hl],by show _<_+1;omega⟩
  ·intro h;exact absurd rfl h
 ·have hl:=hk (.inr hk6)
  unfold transferM soldM
  split
  ·rename_i h0
   intro _
   rw[transfer_new h0,ticket_sold]
   exact⟨hl,rfl,by rw[seatAt_set_self hl],by show _<_+1;omega⟩
  ·intro h;exact absurd rfl h
 ·unfold joinM
  split
  ·intro h;exact absurd rfl h
  split<;>(intro h;exact absurd rfl h)
 ·unfold leaveM
  split<;>(intro h;exact absurd rfl h)
 ·unfold tickM
  split<;>(intro h;exact absurd rfl h)
theorem do_new {s:Md} {op:MOp} (h:(doM s op).2.1.tk≠noTk):
 ∃k:Nat,k<s.seats.length∧(doM s op).2.1.tk.seat=(k:Int)∧(doM s op).2.1.tk.serial=(seatAt (doM s op).1 k).serial∧(seatAt s k).serial<(doM s op).2.1.tk.serial:=by
 revert h
 unfold doM
 split
 ·intro h;exact absurd rfl h
 rename_i ht
 have ht:=Decidable.not_not.1 ht
 split
 ·intro h;exact absurd rfl h
 rename_i hr
 have hr:=Decidable.not_not.1 hr
 split
 ·rename_i he
  intro h
  rw[opM_err he] at h
  exact absurd rfl h
 ·intro h
  refine⟨_,op_new h fun hk=> ?_⟩
  have hs:∃k:Nat,(targetM op).1=(k:Int)∧k<s.seats.length:=by
   rcases hk with hk|hk
   ·rw[target_seat ht (.inr (.inr (.inl hk)))] at hr⊢
    exact seatE_ok (by simpa[refusedM,hk] using And.right (a:=¬op.till≤s.now) (by
     simp only[refusedM,hk] at hr
     simp at hr
     by_cases h1:op.till≤s.now
     ·rw[if_pos h1] at hr;exact absurd hr (by decide)
     ·rw[if_neg h1] at hr;exact⟨h1,hr⟩))
   ·rw[target_tk ht (.inl hk)] at hr⊢
    refine seatE_ok ?_
    simp only[refusedM,hk] at hr
    simp at hr
    by_cases h1:op.till≤s.now
    ·rw[if_pos h1] at hr;exact absurd hr (by decide)
    ·rw[if_neg h1] at hr
     by_cases h2:op.owner=op.tk.owner
     ·rw[if_pos h2] at hr;exact hr
     ·rw[if_neg h2] at hr;exact absurd hr (by decide)
  obtain⟨j,h1,h2⟩:=hs
  rw[h1]
  simpa using h2
def moreTk (s:Md) (all:List Tk) (op:MOp):List Tk:=if(doM s op).2.2=0∧(doM s op).2.1.tk≠noTk then all++[(doM s op).2.1.tk] else all
theorem Held1.more {s:Md} {all:List Tk} (h:Held1 s all) (op:MOp):Held1 (doM s op).1 (moreTk s all op):=by
 have hl:=LaterM.do_ s op
 have h1:∀t∈all,0≤t.seat∧t.seat<(doM s op).1.seats.length∧t.serial≤(seatAt (doM s op).1 t.seat.toNat).serial:=fun t ht=>by
  have:=h.each t ht
  have:=(hl.2 t.seat.toNat).ser
  rw[hl.1]
  omega
 unfold moreTk
 split
 ·rename_i hn
  obtain⟨k,hk,e1,e2,e3⟩:=do_new hn.2
  refine⟨fun t ht=> ?_,fun n m hnm hm=> ?_⟩
  ·rcases List.mem_append.1 ht with ht|ht
   ·exact h1 t ht
   ·simp only[List.mem_singleton] at ht
    subst ht
    rw[e1,hl.1]
    refine⟨by omega,by omega, ?_⟩
    rw[e2,Int.toNat_natCast]
    exact Int.le_refl _
  ·rw[List.length_append,List.length_singleton] at hm
   by_cases hm':m<all.length
   ·rw[List.getElem_append_left (by omega),List.getElem_append_left hm']
    exact h.ord n m hnm hm'
   ·obtain rfl:m=all.length:=by omega
    rw[List.getElem_append_left (by omega),List.getElem_append_right (by omega)]
    simp only[Nat.sub_self,List.getElem_singleton]
    intro he
    have:=(h.each _ (List.getElem_mem (show n<all.length by omega))).2.2
    rw[he,e1,Int.toNat_natCast] at this
    omega
 ·exact⟨h1,h.ord⟩
theorem Held1.one {s:Md} {all:List Tk} (h:Held1 s all) {n k:Nat} (hn:n<k) (hk:k<all.length) (he:(all[n]'(by omega)).seat=all[k].seat) (hv:validM s all[k]=true):validM s (all[n]'(by omega))=false:=by
 cases hv':validM s (all[n]'(by omega)) with
 |false=>rfl
 |true=>
  have h1:=h.ord n k hn hk he
  have h2:=(validM_seat hv).2.2.2.2.1
  have h3:=(validM_seat hv').2.2.2.2.1
  rw[he] at h3
  omega
end Go.Proofs.YtlckmjiioohcmaaGreatDoor
namespace Go.Proofs.YtlckmjiioohcmaaGreatDoor
open Go.RowKit
theorem wrap64_in {x:Int} (h:0≤x∧x≤1000000):wrap64 x=x:=by unfold wrap64;omega
theorem find_rowsOf {i seat:Int}:∀(l:List Int) (k f:Int),(∀n,n∈l→1≤n∧n≤64)→0≤f→f+sum l≤4096→f≤seat→
 (seat<f+sum l→∃y,(rowsOf i l k f).find? (hit seat)=some y∧y.sec=i)∧(f+sum l≤seat→(rowsOf i l k f).find? (hit seat)=none)
 |[],k,f,_,_,_,h=>⟨fun h'=>by simp[sum] at h';omega,fun _=>rfl⟩
 |n::l,k,f,hn,h0,h1,h=>by
  have hb:=hn n (by simp)
  have hl:∀m,m∈l→1≤m∧m≤64:=fun m hm=>hn m (by simp[hm])
  have hs:0≤sum l:=sum_nonneg fun m hm=>by have:=hl m hm;omega
  simp only[sum] at h1⊢
  have hw:wrap64 (f+n)=f+n:=wrap64_in (by omega)
  by_cases hlt:seat<f+n
  ·have hh:hit seat ⟨i,k,f,n⟩=true:=by simp[hit,hw];omega
   refine⟨fun _=>⟨⟨i,k,f,n⟩,by simp[rowsOf,hh],rfl⟩,fun h2=>by omega⟩
  ·have hh:hit seat ⟨i,k,f,n⟩=false:=by simp[hit,hw];omega
   have ih:=find_rowsOf (i:=i) (seat:=seat) l (k+1) (f+n) hl (by omega) (by omega) (by omega)
   refine⟨fun h2=> ?_,fun h2=> ?_⟩
   ·obtain⟨y,e1,e2⟩:=ih.1 (by omega)
    exact⟨y,by simp[rowsOf,hh,e1],e2⟩
   ·simp[rowsOf,hh,ih.2 (by omega)]
def Tail (a b:List Int):Prop:=∀n,a.length-b.length≤n→n<a.length→b[n-(a.length-b.length)]?=a[n]?
theorem tail_refl (a:List Int):Tail a a:=fun n _ _=>by simp
theorem tail_drop (a:List Int) (j:Nat):Tail a (a.drop j):=fun n h1 h2=>by
 rw[List.length_drop] at h1⊢
 rw[List.getElem?_drop]
 congr 1
 omega
theorem listAt_set (s:Md) (k j:Nat) (l:List Int) (hk:k<s.qs.length):listAt {s with qs:=s.qs.set k l} j=if k=j then l else listAt s j:=by
 unfold listAt
 simp only[List.getD_eq_getElem?_getD,List.getElem?_set]
 by_cases h:k=j
 ·subst h;simp[hk]
 ·simp[h]
theorem listAt_some' {s:Md} {k:Nat} (h:k<s.qs.length):s.qs[k]?=some (listAt s k):=by
 unfold listAt
 rw[List.getD_eq_getElem?_getD,List.getElem?_eq_getElem h]
 rfl
theorem offerM_nil {s:Md} {i:Nat} (h:listAt s (secOf s i)=[]):offerM s i=s:=by
 unfold offerM
 split
 ·rename_i o l hq
  rw[listAt_some hq] at h
  cases h
 ·rfl
theorem offerM_cons {s:Md} {i:Nat} {o:Int} {l:List Int} (h:listAt s (secOf s i)=o::l):offerM s i={s with seats:=s.seats.set i (sxHold (seatAt s i) o (untilM s s.ve.ttl)).1,qs:=s.qs.set (secOf s i) l}∧secOf s i<s.qs.length:=by
 have hk:secOf s i<s.qs.length:=by
  rcases Nat.lt_or_ge (secOf s i) s.qs.length with hk|hk
  ·exact hk
  ·unfold listAt at h
   rw[List.getD_eq_getElem?_getD,List.getElem?_eq_none hk] at h
   cases h
 refine⟨?_,hk⟩
 unfold offerM
 rw[listAt_some' hk,h]
theorem offerM_drop (s:Md) (i k:Nat):∃j,listAt (offerM s i) k=(listAt s k).drop j:=by
 cases h:listAt s (secOf s i) with
 |nil=>exact⟨0,by rw[offerM_nil h];rfl⟩
 |cons o l=>
  obtain⟨e,hk⟩:=offerM_cons h
  rw[e]
  have h1:listAt {s with seats:=s.seats.set i (sxHold (seatAt s i) o (untilM s s.ve.ttl)).1,qs:=s.qs.set (secOf s i) l} k=if secOf s i=k then l else listAt s k:=listAt_set s (secOf s i) k l hk
  rw[h1]
  split
  ·rename_i h2
   subst h2
   exact⟨1,by rw[h];rfl⟩
  ·exact⟨0,rfl⟩
def freedK (op:MOp):Prop:=op.kind=4∨op.kind=7∨op.kind=8
instance (op:MOp):Decidable (freedK op):=by unfold freedK;infer_instance
theorem listAt_qs {s s':Md} (h:s'.qs=s.qs) (k:Nat):listAt s' k=listAt s k:=by unfold listAt;rw[h]
def ListsOk (s s':Md) (op:MOp) (k:Nat):Prop:=Tail (listAt s k) (listAt s' k)∧(op.kind≠12→¬freedK op→(listAt s k).length≤(listAt s' k).length)
theorem ListsOk.same {s s':Md} {op:MOp} {k:Nat} (h:s'.qs=s.qs):ListsOk s s' op k:=by
 unfold ListsOk
 rw[listAt_qs h]
 exact⟨tail_refl _,fun _ _=>Nat.le_refl _⟩
theorem ListsOk.drop {s s':Md} {op:MOp} {k:Nat} (h:∃j,listAt s' k=(listAt s k).drop j) (hf:op.kind=12∨freedK op):ListsOk s s' op k:=by
 obtain⟨j,e⟩:=h
 unfold ListsOk
 rw[e]
 refine⟨tail_drop _ _,fun h1 h2=> ?_⟩
 rcases hf with h|h
 ·exact absurd h h1
 ·exact absurd h h2
theorem do_done {s:Md} {op:MOp} (h1:(doM s op).2.2=0) (h2:(doM s op).2.1.err=0):
 (targetM op).2.2=0∧refusedM s op (targetM op).1 (targetM op).2.1=0∧(opM s op (targetM op).1.toNat).2.err=0∧(doM s op).1=(opM s op (targetM op).1.toNat).1∧(doM s op).2.1=(opM s op (targetM op).1.toNat).2:=by
 unfold doM at h1 h2⊢
 split at h1
 ·rename_i h;exact absurd h1 h
 rename_i ht
 rw[if_neg ht] at h2⊢
 split at h2
 ·rename_i h;exact absurd h2 h
 rename_i hr
 rw[if_neg hr]
 split at h2
 ·rename_i h;exact absurd h2 h
 rename_i he
 rw[if_neg he]
 exact⟨Decidable.not_not.1 ht,Decidable.not_not.1 hr,h2,rfl,rfl⟩
theorem hold_open {x:Sx} (hx:sxCheck x=0) (h0:x.state=0) (o d:Int) (hd:0≤d):(sxHold x o d).1={x with state:=1,owner:=o,till:=d}:=by
 have ht:sxTime x d=0:=by
  unfold sxTime
  rw[if_neg (by simpa using hx),if_neg (by omega)]
 have hs:sxState x 0=0:=by
  unfold sxState
  rw[if_neg (by simpa using hx),if_neg (by simpa using h0)]
 unfold sxHold orE
 rw[ht,hs]
 simp
theorem until_bd {s:Md} (h:MdOk s) (hb:Bd s.now) {m:Int} (h1:0≤m):s.now≤untilM s m∧(untilM s m=s.now+m∨untilM s m=9223372036854775807∧9223372036854775807<s.now+m):=by
 have hn:=h.now
 unfold untilM addT
 unfold Bd at hb
 rw[if_neg (by omega)]
 split
 ·exact⟨by show s.now≤9223372036854775807;omega,.inr ⟨rfl,by omega⟩⟩
 ·exact⟨by show s.now≤s.now+m;omega,.inl rfl⟩
/-! Ticks. -/
def dueAt (s:Md) (i:Nat):Prop:=(passT (seatAt s i).till s.now).1=true∧(seatAt s i).state=1
instance (s:Md) (i:Nat):Decidable (dueAt s i):=by unfold dueAt;infer_instance
theorem due_iff {s:Md} (h:MdOk s) (i:Nat):dueAt s i↔(seatAt s i).state=1∧(seatAt s i).till≤s.now:=by
 have h1:=h.seatAt i
 have h2:=h.now
 unfold dueAt passT
 constructor
 ·rintro⟨a,b⟩
  refine⟨b, ?_⟩
  split at a
  ·exact absurd a (by decide)
  ·simpa using a
 ·rintro⟨a,b⟩
  refine⟨?_,a⟩
  unfold sxCheck at h1
  rw[if_pos a] at h1
  by_cases h3:(seatAt s i).till<0
  ·rw[if_pos h3] at h1;exact absurd h1 (by decide)
  ·rw[if_neg (by omega)]
   simpa using b
def dueTo (s:Md) (n:Nat):List Int:=dueFrom s.now 0 (s.seats.take n)
theorem dueTo_succ (s:Md) {n:Nat} (hn:n<s.seats.length):dueTo s (n+1)=dueTo s n++if dueAt s n then[(n:Int)] else[]:=by
 unfold dueTo
 rw[List.take_succ_eq_append_getElem hn,dueFrom_append,List.length_take,Nat.zero_add,Nat.min_eq_left (by omega)]
 congr 1
 have e:seatAt s n=s.seats[n]:=by unfold seatAt;rw[List.getD_eq_getElem?_getD,List.getElem?_eq_getElem hn];rfl
 rw[dueFrom_cons]
 by_cases hd:dueAt s n
 ·rw[if_pos hd,if_pos (by rw[←e];exact hd)]
  rfl
 ·rw[if_neg hd,if_neg (by rw[←e];exact hd)]
  rfl
theorem dueTo_all (s:Md):dueTo s s.seats.length=dueM s:=by
 unfold dueTo dueM
 rw[List.take_length]
theorem dueTo_mem (s:Md):∀n,n≤s.seats.length→∀y,y∈dueTo s n↔∃k:Nat,y=(k:Int)∧k<n∧dueAt s k
 |0,_,y=>by simp[dueTo,dueFrom]
 |n+1,hn,y=>by
  rw[dueTo_succ s (by omega),List.mem_append,dueTo_mem s n (by omega)]
  constructor
  ·rintro(⟨k,e,h1,h2⟩|h)
   ·exact⟨k,e,by omega,h2⟩
   ·split at h
    ·simp at h
     exact⟨n,h,by omega,by assumption⟩
    ·simp at h
  ·rintro⟨k,e,h1,h2⟩
   by_cases hk:k=n
   ·subst hk
    right
    rw[if_pos h2]
    simp[e]
   ·exact .inl ⟨k,e,by omega,h2⟩
def cntS (s:Md) (k:Nat) (P:List Int):Nat:=P.countP fun e=>decide (secOf s e.toNat=k)
def DueTo (s:Md) (i b:Nat) (y:Sx):Prop:=match(listAt s (secOf s i))[b]? with
 |none=>y=sxOpen (seatAt s i)
 |some o=>y={sxOpen (seatAt s i) with state:=1,owner:=o,till:=untilM s s.ve.ttl}
structure Folded (s0 s:Md) (P:List Int):Prop where
 ve:s.ve=s0.ve
 now:s.now=s0.now
 len:s.seats.length=s0.seats.length
 nqs:s.qs.length=s0.qs.length
 lists:∀k,listAt s k=(listAt s0 k).drop (cntS s0 k P)
 rest:∀i:Nat,(i:Int)∉P→seatAt s i=seatAt s0 i
 due:∀(A B:List Int) (i:Nat),P=A++(i:Int)::B→DueTo s0 i (cntS s0 (secOf s0 i) A) (seatAt s i)
theorem folded {s0:Md} (h:MdOk s0) (hb:Bd s0.now):∀(n:Nat) (P:List Int),P.length=n→P.Nodup→(∀e∈P,∃k:Nat,e=(k:Int)∧k<s0.seats.length∧dueAt s0 k)→Folded s0 (P.foldl (fun s x=>expireM s x.toNat) s0) P
 |0,P,hl,_,_=>by
  obtain rfl:=List.eq_nil_of_length_eq_zero hl
  exact⟨rfl,rfl,rfl,rfl,fun k=>rfl,fun i _=>rfl,fun A B i he=>by cases A<;>cases he⟩
 |n+1,P,hl,hn,hd=>by
  obtain⟨Q,e,rfl⟩:∃Q e,P=Q++[e]:=⟨P.dropLast,P.getLast (by intro h;rw[h] at hl;cases hl),(List.dropLast_concat_getLast _).symm⟩
  rw[List.nodup_append] at hn
  have F:=folded h hb n Q (by simp at hl;exact hl) hn.1 (fun e he=>hd e (by simp[he]))
  obtain⟨k,rfl,hk,hdue⟩:=hd e (by simp)
  have hkQ:(k:Int)∉Q:=fun hm=>hn.2.2 _ hm _ (by simp) rfl
  rw[List.foldl_append]
  simp only[List.foldl_cons,List.foldl_nil,Int.toNat_natCast]
  generalize hs:Q.foldl (fun s x=>expireM s x.toNat) s0=s at F
  have hsec:∀i,secOf s i=secOf s0 i:=fun i=>by unfold secOf;rw[F.ve]
  have hu:untilM s s.ve.ttl=untilM s0 s0.ve.ttl:=by unfold untilM;rw[F.ve,F.now]
  have hx:(sxExpire (seatAt s k) s.now).1=sxOpen (seatAt s0 k):=by
   rw[F.rest k hkQ,F.now]
   have h1:=h.seatAt k
   have hnn:=h.now
   unfold sxExpire
   have ht:sxTime (seatAt s0 k) s0.now=0:=by unfold sxTime;rw[if_neg (by simpa using h1),if_neg (by omega)]
   have hs:sxState (seatAt s0 k) 1=0:=by unfold sxState;rw[if_neg (by simpa using h1),if_neg (by simpa using hdue.2)]
   unfold orE
   rw[ht,hs]
   simp[hdue.1]
  have hk':k<s.seats.length:=by rw[F.len];exact hk
  have hcnt:∀j,cntS s0 j (Q++[(k:Int)])=cntS s0 j Q+if secOf s0 k=j then 1 else 0:=fun j=>by
   unfold cntS
   rw[List.countP_append]
   simp[List.countP_cons]
  have hE:expireM s k=offerM (setM s k (sxOpen (seatAt s0 k))) k:=by unfold expireM;rw[hx]
  have hls:listAt (setM s k (sxOpen (seatAt s0 k))) (secOf (setM s k (sxOpen (seatAt s0 k))) k)=(listAt s0 (secOf s0 k)).drop (cntS s0 (secOf s0 k) Q):=by
   have e1:secOf (setM s k (sxOpen (seatAt s0 k))) k=secOf s0 k:=hsec k
   rw[e1]
   exact F.lists (secOf s0 k)
  obtain⟨E1,E2,E3,E4⟩:=expireM_same s k
  have hsplit:∀(A B:List Int) (i:Nat),Q++[(k:Int)]=A++(i:Int)::B→(∃B',Q=A++(i:Int)::B')∨(A=Q∧i=k):=fun A B i he=>by
   rcases List.eq_nil_or_concat B with rfl|⟨B',x,rfl⟩
   ·have:=List.append_inj' he rfl
    right
    refine⟨this.1.symm, ?_⟩
    have h2:=this.2
    simp at h2
    omega
   ·left
    refine⟨B', ?_⟩
    have:Q++[(k:Int)]=(A++(i:Int)::B')++[x]:=by rw[he];simp
    exact(List.append_inj' this rfl).1
  have hset:∀(y:Sx),(∀i:Nat,seatAt (expireM s k) i=if i=k then y else seatAt s i)→DueTo s0 k (cntS s0 (secOf s0 k) Q) y→
   (∀i:Nat,(i:Int)∉Q++[(k:Int)]→seatAt (expireM s k) i=seatAt s0 i)∧∀(A B:List Int) (i:Nat),Q++[(k:Int)]=A++(i:Int)::B→DueTo s0 i (cntS s0 (secOf s0 i) A) (seatAt (expireM s k) i):=fun y hy hd=>by
   refine⟨fun i hi=> ?_,fun A B i he=> ?_⟩
   ·simp at hi
    rw[hy,if_neg (by omega)]
    exact F.rest i hi.1
   ·rcases hsplit A B i he with⟨B',hQ⟩|⟨rfl,rfl⟩
    ·have hik:i≠k:=fun e=>hkQ (by rw[hQ,e];simp)
     rw[hy,if_neg hik]
     exact F.due A B' i hQ
    ·rw[hy,if_pos rfl]
     exact hd
  have hsel:∀(i:Nat),seatAt (setM s k (sxOpen (seatAt s0 k))) i=if i=k then sxOpen (seatAt s0 k) else seatAt s i:=fun i=>by
   rw[seatAt_set]
   by_cases hik:i=k
   ·subst hik;simp[hk']
   ·rw[if_neg (by omega),if_neg hik]
  cases hl2:(listAt s0 (secOf s0 k)).drop (cntS s0 (secOf s0 k) Q) with
  |nil=>
   rw[hl2] at hls
   have hE':=hE.trans (offerM_nil hls)
   have hnone:(listAt s0 (secOf s0 k))[cntS s0 (secOf s0 k) Q]?=none:=by
    have:=congrArg (fun l:List Int=>l[0]?) hl2
    simpa[List.getElem?_drop] using this
   have hh:=hset (sxOpen (seatAt s0 k)) (fun i=>by rw[hE'];exact hsel i) (by unfold DueTo;rw[hnone])
   refine⟨E1.trans F.ve,E2.trans F.now,E3.trans F.len,E4.trans F.nqs,fun j=> ?_,hh.1,hh.2⟩
   rw[hE',hcnt]
   show listAt s j=_
   rw[F.lists j]
   split
   ·rename_i hj
    subst hj
    rw[hl2]
    rw[show cntS s0 (secOf s0 k) Q+1=cntS s0 (secOf s0 k) Q+1 from rfl,←List.drop_drop,hl2]
    rfl
   ·rfl
  |cons o l=>
   rw[hl2] at hls
   obtain⟨hC,hkq⟩:=offerM_cons hls
   have hE':=hE.trans hC
   have hso:seatAt (setM s k (sxOpen (seatAt s0 k))) k=sxOpen (seatAt s0 k):=seatAt_set_self hk' _
   have hu':untilM (setM s k (sxOpen (seatAt s0 k))) (setM s k (sxOpen (seatAt s0 k))).ve.ttl=untilM s0 s0.ve.ttl:=hu
   have hub:0≤untilM s0 s0.ve.ttl:=by
    have:=(until_bd h hb (m:=s0.ve.ttl) (by have:=(checkV_ok h.ve).2.2.1;omega)).1
    have:=h.now
    omega
   rw[hso,hu',hold_open rfl rfl _ _ hub] at hE'
   have hsome:(listAt s0 (secOf s0 k))[cntS s0 (secOf s0 k) Q]?=some o:=by
    have:=congrArg (fun l:List Int=>l[0]?) hl2
    simpa[List.getElem?_drop] using this
   have hh:=hset {sxOpen (seatAt s0 k) with state:=1,owner:=o,till:=untilM s0 s0.ve.ttl} (fun i=>by
    rw[hE']
    unfold seatAt
    simp only[setM]
    rw[List.set_set]
    simp only[List.getD_eq_getElem?_getD,List.getElem?_set]
    by_cases hik:i=k
    ·subst hik;simp[hk']
    ·rw[if_neg (by omega),if_neg hik]) (by unfold DueTo;rw[hsome])
   refine⟨E1.trans F.ve,E2.trans F.now,E3.trans F.len,E4.trans F.nqs,fun j=> ?_,hh.1,hh.2⟩
   rw[hE',hcnt]
   have e2:secOf (setM s k (sxOpen (seatAt s0 k))) k=secOf s0 k:=hsec k
   have:=listAt_set (setM s k (sxOpen (seatAt s0 k))) (secOf (setM s k (sxOpen (seatAt s0 k))) k) j l hkq
   refine Eq.trans this ?_
   rw[e2]
   split
   ·rename_i hj
    subst hj
    rw[←List.drop_drop,hl2]
    rfl
   ·show listAt s j=_
    rw[F.lists j]
    rfl
def nowM (s:Md) (t:Int):Md:={s with now:=t}
theorem MdOk.setNow {s:Md} (h:MdOk s) {t:Int} (ht:s.now≤t):MdOk (nowM s t):=⟨h.ve,by have:=h.now;show 0≤t;omega,h.seats,h.qs,h.each,h.lists⟩
instance (key:Int→Int) (a b:Int):Decidable (lexlt key a b):=by unfold lexlt;infer_instance
def aheadB (s:Md) (i:Nat) (e:Int):Bool:=decide (secOf s e.toNat=secOf s i)&&decide (lexlt (tillAt s) e i)
theorem lexlt_irrefl {key:Int→Int} {a:Int}:¬lexlt key a a:=by unfold lexlt;omega
theorem tick_law {s:Md} (h:MdOk s) {t:Int} (ht:s.now≤t) (hb:Bd t):
 Folded (nowM s t) ((srt (tillAt (nowM s t)) (dueM (nowM s t))).foldl (fun s x=>expireM s x.toNat) (nowM s t)) (srt (tillAt (nowM s t)) (dueM (nowM s t)))∧
 (∀i:Nat,i<s.seats.length→¬dueAt (nowM s t) i→(i:Int)∉srt (tillAt (nowM s t)) (dueM (nowM s t)))∧
 (∀i:Nat,i<s.seats.length→dueAt (nowM s t) i→∃A B,srt (tillAt (nowM s t)) (dueM (nowM s t))=A++(i:Int)::B∧cntS (nowM s t) (secOf (nowM s t) i) A=(dueTo (nowM s t) s.seats.length).countP (aheadB (nowM s t) i)):=by
 have h':=h.setNow ht
 generalize hs0:nowM s t=s0 at h'⊢
 have hb':Bd s0.now:=by rw[←hs0];exact hb
 have hlen:s.seats.length=s0.seats.length:=by rw[←hs0];rfl
 rw[hlen]
 have hsp:=srt_spec (key:=tillAt s0) (dueFrom_asc (now:=s0.now) s0.seats 0)
 change (srt (tillAt s0) (dueM s0)).Perm (dueM s0)∧_ at hsp
 change _∧Asc (tillAt s0) (srt (tillAt s0) (dueM s0)) at hsp
 generalize srt (tillAt s0) (dueM s0)=D at hsp⊢
 have hmem:∀y,y∈D↔∃k:Nat,y=(k:Int)∧k<s0.seats.length∧dueAt s0 k:=fun y=>by
  rw[hsp.1.mem_iff,←dueTo_all,dueTo_mem s0 _ (Nat.le_refl _)]
 have hnd:D.Nodup:=by
  refine(List.Pairwise.imp ?_ hsp.2)
  intro a b hab e
  subst e
  exact lexlt_irrefl hab
 refine⟨folded h' hb' _ D rfl hnd fun e he=>(hmem e).1 he,fun i hi hd hm=> ?_,fun i hi hd=> ?_⟩
 ·obtain⟨k,e,_,h2⟩:=(hmem _).1 hm
  have:i=k:=by omega
  subst this
  exact hd h2
 ·obtain⟨A,B,e⟩:=List.append_of_mem ((hmem (i:Int)).2 ⟨i,rfl,hi,hd⟩)
  refine⟨A,B,e, ?_⟩
  rw[dueTo_all,←hsp.1.countP_eq,e]
  have hasc:=hsp.2
  rw[e] at hasc
  unfold Asc at hasc
  rw[List.pairwise_append] at hasc
  obtain⟨_,h2,h3⟩:=hasc
  rw[List.pairwise_cons] at h2
  rw[List.countP_append,List.countP_cons]
  have hBz:B.countP (aheadB s0 i)=0:=by
   rw[List.countP_eq_zero]
   intro b hb
   simp only[aheadB,Bool.and_eq_true,decide_eq_true_eq,not_and]
   intro _ hl
   exact lexlt_asymm hl (h2.1 b hb)
  have hi0:aheadB s0 i (i:Int)=false:=by simp[aheadB,lexlt_irrefl]
  rw[hBz,hi0]
  simp only[Bool.false_eq_true,if_false,Nat.add_zero]
  unfold cntS
  refine List.countP_congr fun a ha=> ?_
  have:=h3 a ha (i:Int) (by simp)
  simp[aheadB,this]
end Go.Proofs.YtlckmjiioohcmaaGreatDoor

/-
  What a seat comes to, and what operations keep: the plain law of ModelKeeps and ModelOne. Conditions: none.
  What becomes of freed seats and of waiters: the plain law of ModelWaits and ModelTicks. Conditions: none.
-/
import Derived.Test.YtlckmjiioohcmaaGreatDoorMdY
namespace Go.Proofs.YtlckmjiioohcmaaGreatDoor
open Go.RowKit
def Later (x y:Sx):Prop:=y=x∨x.serial<y.serial∨(x.serial=y.serial∧y.state≠2)
theorem Later.refl (x:Sx):Later x x:=.inl rfl
theorem Later.ser {x y:Sx} (h:Later x y):x.serial≤y.serial:=by
 rcases h with rfl|h|⟨h,_⟩<;>omega
theorem Later.trans {x y z:Sx} (h:Later x y) (k:Later y z):Later x z:=by
 rcases k with rfl|k|⟨k1,k2⟩
 ·exact h
 ·exact .inr (.inl (Int.lt_of_le_of_lt h.ser k))
 ·rcases Int.lt_or_eq_of_le h.ser with h1|h1
  ·exact .inr (.inl (by omega))
  ·exact .inr (.inr ⟨by omega,k2⟩)
theorem later_open (x:Sx):Later x (sxOpen x):=.inr (.inr ⟨rfl,by simp[sxOpen]⟩)
theorem later_hold (x:Sx) (o d:Int):Later x (sxHold x o d).1:=by
 unfold sxHold
 split
 ·exact .refl x
 ·exact .inr (.inr ⟨rfl,by simp⟩)
theorem later_expire (x:Sx) (n:Int):Later x (sxExpire x n).1:=by
 unfold sxExpire
 split
 ·exact .refl x
 ·split
  ·exact later_open x
  ·exact .refl x
theorem later_issue (x:Sx) (o:Int):Later x (sxIssue x o).1:=by
 unfold sxIssue
 split
 ·exact .refl x
 ·exact .inr (.inl (by simp only;omega))
theorem later_release (x:Sx) (o:Int):Later x (sxRelease x o).1:=by
 unfold sxRelease
 split
 ·exact .refl x
 ·exact later_open x
theorem later_buy (x:Sx) (o:Int):Later x (sxBuy x o).1:=by
 unfold sxBuy
 split
 ·exact .refl x
 ·exact later_issue x o
theorem later_transfer (x:Sx) (t:Tk) (o:Int):Later x (sxTransfer x t o).1:=by
 unfold sxTransfer
 split
 ·exact .refl x
 ·exact later_issue x o
theorem later_refund (x:Sx) (t:Tk):Later x (sxRefund x t).1:=by
 unfold sxRefund
 split
 ·exact .refl x
 ·exact later_open x
theorem later_revoke (x:Sx):Later x (sxRevoke x).1:=by
 unfold sxRevoke
 split
 ·exact .refl x
 ·split
  ·exact .refl x
  ·exact .inr (.inr ⟨rfl,by simp[sxOpen]⟩)
def LaterM (s s':Md):Prop:=s'.seats.length=s.seats.length∧∀i,Later (seatAt s i) (seatAt s' i)
theorem LaterM.refl (s:Md):LaterM s s:=⟨rfl,fun _=> .refl _⟩
theorem LaterM.trans {s t u:Md} (h:LaterM s t) (k:LaterM t u):LaterM s u:=⟨k.1.trans h.1,fun i=>(h.2 i).trans (k.2 i)⟩
theorem LaterM.eq {s s':Md} (h:s'.seats=s.seats):LaterM s s':=⟨by rw[h],fun i=>by unfold seatAt;rw[h];exact .refl _⟩
theorem seatAt_set {s:Md} {k i:Nat} {x:Sx}:seatAt (setM s k x) i=if k=i∧i<s.seats.length then x else seatAt s i:=by
 unfold seatAt setM
 simp only[List.getD_eq_getElem?_getD,List.getElem?_set]
 by_cases h1:k=i
 ·subst h1
  by_cases h2:k<s.seats.length
  ·simp[h2]
  ·simp[h2]
 ·simp[h1]
theorem LaterM.set {s:Md} (k:Nat) {x:Sx} (h:Later (seatAt s k) x):LaterM s (setM s k x):=⟨by simp[setM],fun i=>by
 rw[seatAt_set]
 split
 ·rename_i h1
  rw[←h1.1]
  exact h
 ·exact .refl _⟩
theorem LaterM.offer (s:Md) (i:Nat):LaterM s (offerM s i):=by
 unfold offerM
 split
 ·have h:=LaterM.set i (later_hold (seatAt s i) ‹Int› (untilM s s.ve.ttl))
  exact h.trans (.eq rfl)
 ·exact .refl s
theorem LaterM.freed {s:Md} (k:Nat) {x:Sx} (e:Int) (h:Later (seatAt s k) x):LaterM s (freedM s k x e).1:=by
 unfold freedM
 show LaterM s (if e=0 then offerM (setM s k x) k else s)
 split
 ·exact(LaterM.set k h).trans (.offer _ _)
 ·exact .refl s
theorem LaterM.sold {s:Md} (k:Nat) {x:Sx} (e:Int) (h:Later (seatAt s k) x):LaterM s (soldM s k x e).1:=by
 unfold soldM
 split
 ·exact .set k h
 ·exact .refl s
theorem LaterM.hold (s:Md) (op:MOp) (k:Nat):LaterM s (holdM s op k).1:=by
 unfold holdM
 split
 ·exact .set k (later_hold _ _ _)
 ·exact .refl s
theorem LaterM.holds (s:Md) (o t:Int) (f:Nat):∀k,LaterM s (holdsM s o t f k)
 |0=> .refl s
 |k+1=>(LaterM.holds s o t f k).trans (.set _ (later_hold _ _ _))
theorem LaterM.block (s:Md) (op:MOp):LaterM s (blockM s op).1:=by
 unfold blockM
 split
 ·exact .refl s
 ·exact .holds _ _ _ _ _
theorem LaterM.expire (s:Md) (i:Nat):LaterM s (expireM s i):=(LaterM.set i (later_expire _ _)).trans (.offer _ _)
theorem LaterM.foldE:∀(l:List Int) (s:Md),LaterM s (l.foldl (fun s x=>expireM s x.toNat) s)
 |[],s=> .refl s
 |x::l,s=>(LaterM.expire s x.toNat).trans (LaterM.foldE l _)
theorem LaterM.tick (s:Md) (op:MOp):LaterM s (tickM s op).1:=by
 unfold tickM
 split
 ·exact .refl s
 ·exact(LaterM.eq (s:=s) (s':={s with now:=op.now}) rfl).trans (.foldE _ _)
theorem opM_kinds {C:Md×MRp→Prop} (s:Md) (op:MOp) (k:Nat) (h1:op.kind=1→C (openM s)) (h2:op.kind=2→C (holdM s op k)) (h3:op.kind=3→C (blockM s op)) (h4:op.kind=4→C (releaseM s op k)) (h5:op.kind=5→C (buyM s op k))
 (h6:op.kind=6→C (transferM s op k)) (h7:op.kind=7→C (refundM s op k)) (h8:op.kind=8→C (revokeM s k)) (h9:op.kind=9→C (validateM s op k)) (h10:op.kind=10→C (joinM s op op.section_.toNat)) (h11:op.kind=11→C (leaveM s op op.section_.toNat))
 (h12:(∀j:Nat,1≤j→j≤11→op.kind≠(j:Int))→C (tickM s op)):C (opM s op k):=by
 unfold opM
 split
 ·exact h1 ‹_›
 split
 ·exact h2 ‹_›
 split
 ·exact h3 ‹_›
 split
 ·exact h4 ‹_›
 split
 ·exact h5 ‹_›
 split
 ·exact h6 ‹_›
 split
 ·exact h7 ‹_›
 split
 ·exact h8 ‹_›
 split
 ·exact h9 ‹_›
 split
 ·exact h10 ‹_›
 split
 ·exact h11 ‹_›
 ·exact h12 fun j _ _=>by omega
theorem LaterM.op (s:Md) (op:MOp) (k:Nat):LaterM s (opM s op k).1:=
 opM_kinds (C:=fun M=>LaterM s M.1) s op k (fun _=> .refl s) (fun _=> .hold s op k) (fun _=> .block s op) (fun _=> .freed k _ (later_release _ _)) (fun _=> .sold k _ (later_buy _ _)) (fun _=> .sold k _ (later_transfer _ _ _))
  (fun _=> .freed k _ (later_refund _ _)) (fun _=> .freed k _ (later_revoke _)) (fun _=> .refl s) (fun _=>by unfold joinM;split;exact .refl s;split;exact .refl s;exact .eq rfl) (fun _=>by unfold leaveM;split;exact .refl s;exact .eq rfl) (fun _=> .tick s op)
theorem LaterM.do_ (s:Md) (op:MOp):LaterM s (doM s op).1:=by
 unfold doM
 split
 ·exact .refl s
 split
 ·exact .refl s
 split
 ·exact .refl s
 ·exact .op s op _
/-! What is replied with an error,and what changes nothing. -/
theorem opM_err {s:Md} {op:MOp} {k:Nat} (h:(opM s op k).2.err≠0):(opM s op k).2={noRp with err:=(opM s op k).2.err}:=by
 revert h
 refine opM_kinds (C:=fun M=>M.2.err≠0→M.2={noRp with err:=M.2.err}) s op k (fun _ h=>absurd rfl h) (fun _=> ?_) (fun _=> ?_) (fun _ _=>rfl) (fun _=> ?_) (fun _=> ?_) (fun _ _=>rfl) (fun _ _=>rfl) (fun _ _=>rfl) (fun _=> ?_) (fun _=> ?_) (fun _=> ?_)
 ·unfold holdM
  split
  ·intro h;exact absurd rfl h
  ·intro _;rfl
 ·unfold blockM
  split
  ·intro _;rfl
  ·intro h;exact absurd rfl h
 ·unfold buyM soldM
  split
  ·intro h;exact absurd rfl h
  ·intro _;rfl
 ·unfold transferM soldM
  split
  ·intro h;exact absurd rfl h
  ·intro _;rfl
 ·unfold joinM
  split
  ·intro _;rfl
  split
  ·intro _;rfl
  ·intro h;exact absurd rfl h
 ·unfold leaveM
  split
  ·intro _;rfl
  ·intro h;exact absurd rfl h
 ·unfold tickM
  split
  ·intro _;rfl
  ·intro h;exact absurd rfl h
/-! Tickets. -/
def validM (s:Md) (t:Tk):Bool:=decide (0≤t.seat∧t.seat<s.seats.length∧sxValid (seatAt s t.seat.toNat) t=0)
theorem validM_seat {s:Md} {t:Tk} (h:validM s t=true):0≤t.seat∧t.seat<s.seats.length∧(seatAt s t.seat.toNat).state=2∧t.owner=(seatAt s t.seat.toNat).owner∧t.serial=(seatAt s t.seat.toNat).serial∧t.epoch=(seatAt s t.seat.toNat).epoch:=by
 unfold validM at h
 have h:=of_decide_eq_true h
 refine⟨h.1,h.2.1, ?_⟩
 have h2:=h.2.2
 unfold sxValid at h2
 split at h2
 ·rename_i h3;exact absurd h2 h3
 rename_i h3
 split at h2
 ·rename_i h4
  have h3:=Decidable.not_not.1 h3
  unfold sxState at h3
  split at h3
  ·rename_i h5;exact absurd h3 h5
  split at h3
  ·exact absurd h3 (by decide)
  ·rename_i h5
   exact⟨Decidable.not_not.1 h5,h4⟩
 ·exact absurd h2 (by decide)
structure Held1 (s:Md) (all:List Tk):Prop where
 each:∀t∈all,0≤t.seat∧t.seat<s.seats.length∧t.serial≤(seatAt s t.seat.toNat).serial
 ord:∀n k,(hn:n<k)→(hk:k<all.length)→(all[n]'(by omega)).seat=all[k].seat→(all[n]'(by omega)).serial<all[k].serial
theorem Held1.nil (s:Md):Held1 s []:=⟨fun _ h=>by simp at h,fun n k hn hk=>by simp at hk⟩
theorem issue_new {x:Sx} {o:Int} (h:(sxIssue x o).2=0):(sxIssue x o).1=⟨2,o,0,x.serial+1,x.epoch⟩:=by
 unfold sxIssue at h⊢
 split at h
 ·exact absurd (show(17:Int)=0 from h) (by decide)
 ·rename_i h1
  rw[if_neg h1]
theorem buy_new {x:Sx} {o:Int} (h:(sxBuy x o).2=0):(sxBuy x o).1=⟨2,o,0,x.serial+1,x.epoch⟩:=by
 unfold sxBuy at h⊢
 split at h
 ·rename_i h1;exact absurd h h1
 ·rename_i h1
  rw[if_neg h1]
  exact issue_new h
theorem transfer_new {x:Sx} {t:Tk} {o:Int} (h:(sxTransfer x t o).2=0):(sxTransfer x t o).1=⟨2,o,0,x.serial+1,x.epoch⟩:=by
 unfold sxTransfer at h⊢
 split at h
 ·rename_i h1;exact absurd h h1
 ·rename_i h1
  rw[if_neg h1]
  exact issue_new h
theorem ticket_sold (o s e k:Int):sxTicket ⟨2,o,0,s,e⟩ k=(⟨k,o,s,e⟩,0):=rfl
theorem seatAt_set_self {s:Md} {k:Nat} (hk:k<s.seats.length) (x:Sx):seatAt (setM s k x) k=x:=by rw[seatAt_set,if_pos ⟨rfl,hk⟩]
theorem op_new {s:Md} {op:MOp} {k:Nat} (h:(opM s op k).2.tk≠noTk) (hk:op.kind=5∨op.kind=6→k<s.seats.length):
 k<s.seats.length∧(opM s op k).2.tk.seat=(k:Int)∧(opM s op k).2.tk.serial=(seatAt (opM s op k).1 k).serial∧(seatAt s k).serial<(opM s op k).2.tk.serial:=by
 revert h
 refine opM_kinds (C:=fun M=>M.2.tk≠noTk→k<s.seats.length∧M.2.tk.seat=(k:Int)∧M.2.tk.serial=(seatAt M.1 k).serial∧(seatAt s k).serial<M.2.tk.serial) s op k (fun _ h=>absurd rfl h) (fun _=> ?_) (fun _=> ?_) (fun _ h=>absurd rfl h) (fun hk5=> ?_) (fun hk6=> ?_) (fun _ h=>absurd rfl h) (fun _ h=>absurd rfl h) (fun _ h=>absurd rfl h) (fun _=> ?_) (fun _=> ?_) (fun _=> ?_)
 ·unfold holdM
  split<;>(intro h;exact absurd rfl h)
 ·unfold blockM
  split<;>(intro h;exact absurd rfl h)
 ·have hl:=hk (.inl hk5)
  unfold buyM soldM
  split
  ·rename_i h0
   intro _
   rw[buy_new h0,ticket_sold]
   exact⟨hl,rfl,by rw[seatAt_set_self hl],by show _<_+1;omega⟩
  ·intro h;exact absurd rfl h
 ·have hl:=hk (.inr hk6)
  unfold transferM soldM
  split
  ·rename_i h0
   intro _
   rw[transfer_new h0,ticket_sold]
   exact⟨hl,rfl,by rw[seatAt_set_self hl],by show _<_+1;omega⟩
  ·intro h;exact absurd rfl h
 ·unfold joinM
  split
  ·intro h;exact absurd rfl h
  split<;>(intro h;exact absurd rfl h)
 ·unfold leaveM
  split<;>(intro h;exact absurd rfl h)
 ·unfold tickM
  split<;>(intro h;exact absurd rfl h)
theorem do_new {s:Md} {op:MOp} (h:(doM s op).2.1.tk≠noTk):
 ∃k:Nat,k<s.seats.length∧(doM s op).2.1.tk.seat=(k:Int)∧(doM s op).2.1.tk.serial=(seatAt (doM s op).1 k).serial∧(seatAt s k).serial<(doM s op).2.1.tk.serial:=by
 revert h
 unfold doM
 split
 ·intro h;exact absurd rfl h
 rename_i ht
 have ht:=Decidable.not_not.1 ht
 split
 ·intro h;exact absurd rfl h
 rename_i hr
 have hr:=Decidable.not_not.1 hr
 split
 ·rename_i he
  intro h
  rw[opM_err he] at h
  exact absurd rfl h
 ·intro h
  refine⟨_,op_new h fun hk=> ?_⟩
  have hs:∃k:Nat,(targetM op).1=(k:Int)∧k<s.seats.length:=by
   rcases hk with hk|hk
   ·rw[target_seat ht (.inr (.inr (.inl hk)))] at hr⊢
    exact seatE_ok (by simpa[refusedM,hk] using And.right (a:=¬op.till≤s.now) (by
     simp only[refusedM,hk] at hr
     simp at hr
     by_cases h1:op.till≤s.now
     ·rw[if_pos h1] at hr;exact absurd hr (by decide)
     ·rw[if_neg h1] at hr;exact⟨h1,hr⟩))
   ·rw[target_tk ht (.inl hk)] at hr⊢
    refine seatE_ok ?_
    simp only[refusedM,hk] at hr
    simp at hr
    by_cases h1:op.till≤s.now
    ·rw[if_pos h1] at hr;exact absurd hr (by decide)
    ·rw[if_neg h1] at hr
     by_cases h2:op.owner=op.tk.owner
     ·rw[if_pos h2] at hr;exact hr
     ·rw[if_neg h2] at hr;exact absurd hr (by decide)
  obtain⟨j,h1,h2⟩:=hs
  rw[h1]
  simpa using h2
def moreTk (s:Md) (all:List Tk) (op:MOp):List Tk:=if(doM s op).2.2=0∧(doM s op).2.1.tk≠noTk then all++[(doM s op).2.1.tk] else all
theorem Held1.more {s:Md} {all:List Tk} (h:Held1 s all) (op:MOp):Held1 (doM s op).1 (moreTk s all op):=by
 have hl:=LaterM.do_ s op
 have h1:∀t∈all,0≤t.seat∧t.seat<(doM s op).1.seats.length∧t.serial≤(seatAt (doM s op).1 t.seat.toNat).serial:=fun t ht=>by
  have:=h.each t ht
  have:=(hl.2 t.seat.toNat).ser
  rw[hl.1]
  omega
 unfold moreTk
 split
 ·rename_i hn
  obtain⟨k,hk,e1,e2,e3⟩:=do_new hn.2
  refine⟨fun t ht=> ?_,fun n m hnm hm=> ?_⟩
  ·rcases List.mem_append.1 ht with ht|ht
   ·exact h1 t ht
   ·simp only[List.mem_singleton] at ht
    subst ht
    rw[e1,hl.1]
    refine⟨by omega,by omega, ?_⟩
    rw[e2,Int.toNat_natCast]
    exact Int.le_refl _
  ·rw[List.length_append,List.length_singleton] at hm
   by_cases hm':m<all.length
   ·rw[List.getElem_append_left (by omega),List.getElem_append_left hm']
    exact h.ord n m hnm hm'
   ·obtain rfl:m=all.length:=by omega
    rw[List.getElem_append_left (by omega),List.getElem_append_right (by omega)]
    simp only[Nat.sub_self,List.getElem_singleton]
    intro he
    have:=(h.each _ (List.getElem_mem (show n<all.length by omega))).2.2
    rw[he,e1,Int.toNat_natCast] at this
    omega
 ·exact⟨h1,h.ord⟩
theorem Held1.one {s:Md} {all:List Tk} (h:Held1 s all) {n k:Nat} (hn:n<k) (hk:k<all.length) (he:(all[n]'(by omega)).seat=all[k].seat) (hv:validM s all[k]=true):validM s (all[n]'(by omega))=false:=by
 cases hv':validM s (all[n]'(by omega)) with
 |false=>rfl
 |true=>
  have h1:=h.ord n k hn hk he
  have h2:=(validM_seat hv).2.2.2.2.1
  have h3:=(validM_seat hv').2.2.2.2.1
  rw[he] at h3
  omega
end Go.Proofs.YtlckmjiioohcmaaGreatDoor
namespace Go.Proofs.YtlckmjiioohcmaaGreatDoor
open Go.RowKit
def Tail (a b:List Int):Prop:=∀n,a.length-b.length≤n→n<a.length→b[n-(a.length-b.length)]?=a[n]?
theorem tail_refl (a:List Int):Tail a a:=fun n _ _=>by simp
theorem tail_drop (a:List Int) (j:Nat):Tail a (a.drop j):=fun n h1 h2=>by
 rw[List.length_drop] at h1⊢
 rw[List.getElem?_drop]
 congr 1
 omega
def freedK (op:MOp):Prop:=op.kind=4∨op.kind=7∨op.kind=8
instance (op:MOp):Decidable (freedK op):=by unfold freedK;infer_instance
theorem listAt_qs {s s':Md} (h:s'.qs=s.qs) (k:Nat):listAt s' k=listAt s k:=by unfold listAt;rw[h]
def ListsOk (s s':Md) (op:MOp) (k:Nat):Prop:=Tail (listAt s k) (listAt s' k)∧(op.kind≠12→¬freedK op→(listAt s k).length≤(listAt s' k).length)
theorem ListsOk.same {s s':Md} {op:MOp} {k:Nat} (h:s'.qs=s.qs):ListsOk s s' op k:=by
 unfold ListsOk
 rw[listAt_qs h]
 exact⟨tail_refl _,fun _ _=>Nat.le_refl _⟩
theorem ListsOk.drop {s s':Md} {op:MOp} {k:Nat} (h:∃j,listAt s' k=(listAt s k).drop j) (hf:op.kind=12∨freedK op):ListsOk s s' op k:=by
 obtain⟨j,e⟩:=h
 unfold ListsOk
 rw[e]
 refine⟨tail_drop _ _,fun h1 h2=> ?_⟩
 rcases hf with h|h
 ·exact absurd h h1
 ·exact absurd h h2
/-! Ticks. -/
def dueAt (s:Md) (i:Nat):Prop:=(passT (seatAt s i).till s.now).1=true∧(seatAt s i).state=1
instance (s:Md) (i:Nat):Decidable (dueAt s i):=by unfold dueAt;infer_instance
def nowM (s:Md) (t:Int):Md:={s with now:=t}
theorem MdOk.setNow {s:Md} (h:MdOk s) {t:Int} (ht:s.now≤t):MdOk (nowM s t):=⟨h.ve,by have:=h.now;show 0≤t;omega,h.seats,h.qs,h.each,h.lists⟩
instance (key:Int→Int) (a b:Int):Decidable (lexlt key a b):=by unfold lexlt;infer_instance
end Go.Proofs.YtlckmjiioohcmaaGreatDoor

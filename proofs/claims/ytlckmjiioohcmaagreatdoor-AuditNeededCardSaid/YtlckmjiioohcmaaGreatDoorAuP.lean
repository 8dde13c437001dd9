/-
  The audit reader with memory of its own; what it learns, as a function. Conditions: as each theorem says.
-/
import Derived.Test.YtlckmjiioohcmaaGreatDoorAuO
namespace Go.Proofs.YtlckmjiioohcmaaGreatDoor
open Go.RowKit
theorem Only3.drew {g a b:Nat} {W X:World} (h:Only3 g a b W X):Only3 g a b W X.drew:=⟨h.os,h.tape,h.output,h.size,h.block⟩
theorem Only3.drewN {g a b:Nat} {W X:World} (h:Only3 g a b W X) (n:Nat):Only3 g a b W (X.drewN n):=⟨h.os,h.tape,h.output,h.size,h.block⟩
theorem Only3.own {α:Type} {R:Rep α} {g a b:Nat} {e:TypeId} {B:Nat} {w w':World} {v:Value} {xs:List α} (h:Own R e B w v xs) (hk:Only3 g a b w w') (hf:R.flat) (hv:∀k,v.ownBlock=some k→k≠g∧k≠a∧k≠b):Own R e B w' v xs:=by
 obtain⟨cells,ho,hm⟩:=h
 refine⟨cells,⟨ho.1, ?_⟩,Rep.many_flat hf hm⟩
 rcases ho.2 with h2|⟨k,cap,cur,rfl,hB,hg,r⟩
 ·exact .inl h2
 ·obtain⟨h1,h2,h3⟩:=hv k rfl
  exact .inr ⟨k,cap,cur,rfl,hB,(hk.block k (Array.getElem?_eq_some_iff.1 hg).1 h1 h2 h3).trans hg,r⟩
theorem seR_flat:seR.flat:=fun _ _ _ _ h=>h
def ownF (V:Option Addr) (vc a b:Nat) (s:Au):Frm:=⟨V,vc,some ⟨a,0,none⟩,s.seats.length,some ⟨b,0,none⟩,s.waiting.length⟩
structure RdO (w0 W:World) (g a b:Nat) (V:Option Addr) (vc:Nat) (s:Au) (op:MOp) (rp:MRp):Prop where
 bw:Below w0.heap.size w0 W
 gB:w0.heap.size≤g
 ga:g≠a
 gb:g≠b
 ab:a≠b
 cs:Cells W g (auCells (ownF V vc a b s) s++opCells op++rpCells rp)
 vs:Sl secR w0 (.slice V s.ve.secs.length vc) s.ve.secs
 ss:Own seR 107 w0.heap.size W (.slice (some ⟨a,0,none⟩) s.seats.length s.seats.length) s.seats
 ws:Own intR 3 w0.heap.size W (.slice (some ⟨b,0,none⟩) s.waiting.length s.waiting.length) s.waiting
 bv:Bd s.ve.shards∧Bd s.ve.ttl∧Bd s.ve.session
 bn:Bd s.now
 bo:OpOk op
 br:RpOk rp
theorem RdO.rd {w0 W:World} {g a b:Nat} {V:Option Addr} {vc:Nat} {s:Au} {op:MOp} {rp:MRp} (h:RdO w0 W g a b V vc s op rp):Rd W g (ownF V vc a b s) s op rp:=
 ⟨h.cs,h.vs.up h.bw,h.ss.sl,h.ws.sl,h.bv,h.bn,h.bo,h.br⟩
theorem RdO.up {w0 W W':World} {g a b:Nat} {V:Option Addr} {vc:Nat} {s:Au} {op:MOp} {rp:MRp} (h:RdO w0 W g a b V vc s op rp) (hb:Below W.heap.size W W'):RdO w0 W' g a b V vc s op rp:=
 ⟨h.bw.trans (hb.mono h.bw.size),h.gB,h.ga,h.gb,h.ab,h.cs.later hb,h.vs,h.ss.up hb,h.ws.up hb,h.bv,h.bn,h.bo,h.br⟩
theorem RdO.aB {w0 W:World} {g a b:Nat} {V:Option Addr} {vc:Nat} {s:Au} {op:MOp} {rp:MRp} (h:RdO w0 W g a b V vc s op rp):w0.heap.size≤a∧a<W.heap.size:=⟨h.ss.block.1,h.ss.block.2.1⟩
theorem RdO.bB {w0 W:World} {g a b:Nat} {V:Option Addr} {vc:Nat} {s:Au} {op:MOp} {rp:MRp} (h:RdO w0 W g a b V vc s op rp):w0.heap.size≤b∧b<W.heap.size:=⟨h.ws.block.1,h.ws.block.2.1⟩
theorem RdO.only {w0 W W':World} {g a b:Nat} {V:Option Addr} {vc:Nat} {s:Au} {op:MOp} {rp:MRp} (h:RdO w0 W g a b V vc s op rp) (hb:Only3 g a b W W'):Below w0.heap.size w0 W':=
 h.bw.trans (hb.below h.gB h.aB.1 h.bB.1 h.bw.size)
def seCells (x:Se):List Value:=[.bool x.sold,.bool x.held,.int .u32 x.owner,.int .i64 x.till,.int .u64 x.serial,.int .u64 x.epoch]
def SeOk (x:Se):Prop:=U32 x.owner∧Bd x.till∧U64 x.serial∧U64 x.epoch
theorem RdO.putSeat {w0 W:World} {g a b:Nat} {V:Option Addr} {vc:Nat} {s:Au} {op:MOp} {rp:MRp} (h:RdO w0 W g a b V vc s op rp) {k:Nat} (hk:k<s.seats.length) {x:Se} (hx:SeOk x):
 RdO w0 (putAt W a (k*6) (seCells x)) g a b V vc {s with seats:=s.seats.set k x} op rp∧Only3 g a b W (putAt W a (k*6) (seCells x)):=by
 obtain⟨h1,h2⟩:=h.ss.put hk (x:=x) (cs:=seCells x) ⟨rfl,hx⟩ (fun _ _ _ _ h=>h)
 have ho:=Only3.grown (g:=g) (a:=a) (b:=b) h2 (.inr (.inl rfl))
 refine⟨⟨h.only ho,h.gB,h.ga,h.gb,h.ab, ?_,h.vs, ?_, ?_,h.bv,h.bn,h.bo,h.br⟩,ho⟩
 ·have:=h.cs.grown h2 (fun e=>h.ga (by cases e;rfl))
  simp only[auCells,ownF,List.length_set] at this⊢
  exact this
 ·show Own seR _ _ _ (.slice _ (s.seats.set k x).length (s.seats.set k x).length) (s.seats.set k x)
  rw[List.length_set];exact h1
 ·exact h.ws.kept h2 (fun k hk e=>by cases hk;cases e;exact h.ab rfl) (fun _ _ h=>h)
theorem RdO.putWait {w0 W:World} {g a b:Nat} {V:Option Addr} {vc:Nat} {s:Au} {op:MOp} {rp:MRp} (h:RdO w0 W g a b V vc s op rp) {k:Nat} (hk:k<s.waiting.length) {x:Int} (hx:Bd x):
 RdO w0 (W.setCell ⟨b,k,none⟩ (.int .i64 x)) g a b V vc {s with waiting:=s.waiting.set k x} op rp∧Only3 g a b W (W.setCell ⟨b,k,none⟩ (.int .i64 x)):=by
 obtain⟨h1,h2⟩:=h.ws.putI hk hx
 have ho:=Only3.grown (g:=g) (a:=a) (b:=b) h2 (.inr (.inr rfl))
 refine⟨⟨h.only ho,h.gB,h.ga,h.gb,h.ab, ?_,h.vs, ?_, ?_,h.bv,h.bn,h.bo,h.br⟩,ho⟩
 ·have:=h.cs.grown h2 (fun e=>h.gb (by cases e;rfl))
  simp only[auCells,ownF,List.length_set] at this⊢
  exact this
 ·exact h.ss.kept h2 (fun k hk e=>by cases hk;cases e;exact h.ab rfl) (fun _ _ h=>h)
 ·show Own intR _ _ _ (.slice _ (s.waiting.set k x).length (s.waiting.set k x).length) (s.waiting.set k x)
  rw[List.length_set];exact h1
theorem RdO.putOwn {w0 W W':World} {g a b:Nat} {V:Option Addr} {vc:Nat} {s:Au} {op:MOp} {rp:MRp} (h:RdO w0 W g a b V vc s op rp) {n:Int} {op':MOp} {rp':MRp} (hn:Bd n) (ho:OpOk op') (hr:RpOk rp') (hg:W.grownBy W' (some g))
 (hc:Cells W' g (auCells (ownF V vc a b s) {s with now:=n}++opCells op'++rpCells rp')):RdO w0 W' g a b V vc {s with now:=n} op' rp'∧Only3 g a b W W':=by
 have h3:=Only3.grown (g:=g) (a:=a) (b:=b) hg (.inl rfl)
 exact⟨⟨h.only h3,h.gB,h.ga,h.gb,h.ab,hc,h.vs,h.ss.kept hg (fun k hk e=>by cases hk;cases e;exact h.ga rfl) (fun _ _ h=>h),h.ws.kept hg (fun k hk e=>by cases hk;cases e;exact h.gb rfl) (fun _ _ h=>h),h.bv,hn,ho,hr⟩,h3⟩
def freeS (x:Se):Se:=⟨false,false,0,0,x.serial,x.epoch⟩
def holdS (owner till:Int) (x:Se):Se:={x with held:=true,owner:=owner,till:=till}
def soldS (owner:Int) (x:Se):Se:=⟨true,false,owner,0,x.serial+1,x.epoch⟩
def revS (x:Se):Se:=⟨false,false,0,0,x.serial,x.epoch+1⟩
def firstA (op:MOp) (rp:MRp):Nat:=if isB [3] op.kind then rp.seat.toNat else op.seat.toNat
def manyA (op:MOp) (rp:MRp):Nat:=if isB [3] op.kind then rp.n.toNat else 1
def modSeg {α:Type} (f:α→α) (l:List α) (k m:Nat):List α:=l.take k++((l.drop k).take m).map f++l.drop (k+m)
def seatMod (s:Au) (k:Nat) (f:Se→Se):Au:=match s.seats[k]? with
 |some x=>{s with seats:=s.seats.set k (f x)}
 |none=>s
def tickS (now:Int) (x:Se):Se:=if x.held&&decide (x.till≤now) then freeS x else x
def learnA (s:Au) (op:MOp) (rp:MRp):Au:=
 if isB [2,3] op.kind then {s with seats:=modSeg (holdS op.owner rp.deadline) s.seats (firstA op rp) (manyA op rp)}
 else if isB [10] op.kind then {s with waiting:=s.waiting.set op.section_.toNat (min (waitOf s.waiting op.section_.toNat+1) (queueOf s.ve op.section_.toNat))}
 else if isB [11] op.kind then {s with waiting:=s.waiting.set op.section_.toNat (waitOf s.waiting op.section_.toNat-1)}
 else if isB [12] op.kind then {s with now:=op.now,seats:=s.seats.map (tickS op.now)}
 else if isB [4,7] op.kind then seatMod s (seatA op).toNat freeS
 else if isB [5] op.kind then seatMod s (seatA op).toNat (soldS op.owner)
 else if isB [6] op.kind then seatMod s (seatA op).toNat (soldS op.to)
 else if isB [8] op.kind then seatMod s (seatA op).toNat revS
 else s
end Go.Proofs.YtlckmjiioohcmaaGreatDoor

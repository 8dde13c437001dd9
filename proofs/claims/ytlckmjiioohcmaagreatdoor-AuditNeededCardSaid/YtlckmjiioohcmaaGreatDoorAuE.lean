/-
  The audit reader as it lies in memory; walk of its method chosen. Conditions: as each theorem says.
-/
import Derived.Test.YtlckmjiioohcmaaGreatDoorLmC
import Derived.Test.YtlckmjiioohcmaaGreatDoorAuD
namespace Go.Proofs.YtlckmjiioohcmaaGreatDoor
open Go.RowKit
structure Frm where
 V:Option Addr
 vc:Nat
 A:Option Addr
 ac:Nat
 B:Option Addr
 bc:Nat
def auCells (F:Frm) (s:Au):List Value:=[.int .i64 s.ve.shards,.int .i64 s.ve.ttl,.int .i64 s.ve.session,.slice F.V s.ve.secs.length F.vc,.int .i64 s.now,.slice F.A s.seats.length F.ac,.slice F.B s.waiting.length F.bc]
structure Rd (W:World) (g:Nat) (F:Frm) (s:Au) (op:MOp) (rp:MRp):Prop where
 cs:Cells W g (auCells F s++opCells op++rpCells rp)
 vs:Sl secR W (.slice F.V s.ve.secs.length F.vc) s.ve.secs
 ss:Sl seR W (.slice F.A s.seats.length F.ac) s.seats
 ws:Sl intR W (.slice F.B s.waiting.length F.bc) s.waiting
 bv:Bd s.ve.shards∧Bd s.ve.ttl∧Bd s.ve.session
 bn:Bd s.now
 bo:OpOk op
 br:RpOk rp
theorem Rd.up {W W':World} {g:Nat} {F:Frm} {s:Au} {op:MOp} {rp:MRp} (h:Rd W g F s op rp) (hb:Below W.heap.size W W'):Rd W' g F s op rp:=
 ⟨h.cs.later hb,h.vs.up hb,h.ss.up hb,h.ws.up hb,h.bv,h.bn,h.bo,h.br⟩
theorem Rd.isC {W:World} {g:Nat} {F:Frm} {s:Au} {op:MOp} {rp:MRp} (h:Rd W g F s op rp) (ks:List Int) (hb:∀x,x∈ks→Bd x) (hl:ks.length≤1000) (w:World) (b:Nat) (hw:Below W.heap.size W w) (he:b=w.heap.size):
 Calls Tryz.prog 115 #[.pointer (some ⟨g,0,none⟩),.slice (some ⟨b,0,none⟩) ks.length ks.length] (w.alloc (.cells (ks.map (Value.int .i64)).toArray 3)) fun e w'=>e=.returned (.bool (isB ks op.kind))∧Below w.heap.size w w':=
 isLb g op.kind ks w b ((h.up hw).cs.c 7 _ rfl) hb hl he
theorem Sl.part {α:Type} {R:Rep α} {w:World} {b off n c:Nat} {xs:List α} (h:Sl R w (.slice (some ⟨b,off,.none⟩) n c) xs) {k m:Nat} (hk:k+m≤xs.length) {o' c':Nat} (ho:o'=off+k*R.size) (hc:c'=c-k):
 Sl R w (.slice (some ⟨b,o',.none⟩) m c') ((xs.drop k).take m):=by
 subst ho hc
 obtain⟨A',d,he,h1,h2,h3⟩:=h
 injection he with e1 e2 e3
 subst e1 e2 e3
 have hlen:((xs.drop k).take m).length=m:=by rw[List.length_take,List.length_drop];omega
 refine⟨some ⟨b,off+k*R.size,.none⟩,c-k,by rw[hlen],by rw[hlen];omega,by omega, ?_⟩
 rcases h3 with⟨h3,h4⟩|⟨b',off',he,hlt,hcells⟩
 ·exact .inl ⟨by rw[hlen];omega,by omega⟩
 ·injection he with he
  injection he with he1 he2
  subst he1 he2
  refine .inr ⟨b,_,rfl,hlt,fun i x hi=> ?_⟩
  have hi':xs[k+i]?=some x:=by
   rw[List.getElem?_take] at hi
   split at hi
   ·rwa[List.getElem?_drop] at hi
   ·cases hi
  obtain⟨cs,h4,h5⟩:=hcells _ x hi'
  exact⟨cs,h4,by rw[show off+k*R.size+i*R.size=off+(k+i)*R.size from by rw[Nat.add_mul];omega];exact h5⟩
theorem ret_slN {A:Option Addr} {a b c:Nat} (h:a=b):Ending.returned (.slice A a c)=.returned (.slice A b c):=by rw[h]
set_option maxHeartbeats 1000000 in
theorem chosenB_any {W:World} {g:Nat} {F:Frm} {s:Au} {op:MOp} {rp:MRp} (R:Rd W g F s op rp) (hq:isB [3] op.kind=true) {b off k m:Nat} (hA:F.A=some ⟨b,off,none⟩) (h1:rp.seat=(k:Int)) (h2:rp.n=(m:Int)) (h3:k+m≤s.seats.length) (h4:1≤m):
 Calls Tryz.prog 118 #[.pointer (some ⟨g,0,none⟩)] W fun e w'=>e=.returned (.slice (some ⟨b,off+k*6,none⟩) m (F.ac-k))∧Below W.heap.size W w':=by
 have C1:=Lib.hid (R.isC [3] (by simp[Bd]) (by simp))
 rw[hq] at C1
 have RH:=Lib.hid R
 have hcap:=R.ss.cap
 clear R hq
 go_enter Tryz.func118,Tryz.ntmps118
 go_wp2_with fail
 refine(C1.out _ _ (Below.refl _ _) rfl).mono ?_
 rintro e w1 ⟨rfl,hb⟩
 have R1:=RH.out.up hb
 have c5:=R1.cs.c 5 _ rfl
 have c20:=R1.cs.c 20 _ rfl
 have c21:=R1.cs.c 21 _ rfl
 have y1:=R1.cs.lt
 rw[hA] at c5
 rw[h1] at c20
 rw[h2] at c21
 have hw:IntKind.i64.wrap ((k:Int)+m)=(k:Int)+m:=IntWalk.i64_in _ (by omega)
 have HB:=Lib.hid hb
 clear hb R1
 go_wp2_with fail
 go_quiet (fail)
 go_wp2_with fail
 go_ret
 exact⟨ret_slN (by omega),bdN HB.out _⟩
set_option maxHeartbeats 1000000 in
theorem chosenS_any {W:World} {g:Nat} {F:Frm} {s:Au} {op:MOp} {rp:MRp} (R:Rd W g F s op rp) (hq:isB [3] op.kind=false) {b off k:Nat} (hA:F.A=some ⟨b,off,none⟩) (h1:op.seat=(k:Int)) (h3:k<s.seats.length):
 Calls Tryz.prog 118 #[.pointer (some ⟨g,0,none⟩)] W fun e w'=>e=.returned (.slice (some ⟨b,off+k*6,none⟩) 1 (F.ac-k))∧Below W.heap.size W w':=by
 have C1:=Lib.hid (R.isC [3] (by simp[Bd]) (by simp))
 rw[hq] at C1
 have RH:=Lib.hid R
 have hcap:=R.ss.cap
 clear R hq
 go_enter Tryz.func118,Tryz.ntmps118
 go_wp2_with fail
 refine(C1.out _ _ (Below.refl _ _) rfl).mono ?_
 rintro e w1 ⟨rfl,hb⟩
 have R1:=RH.out.up hb
 have c5:=R1.cs.c 5 _ rfl
 have c10:=R1.cs.c 10 _ rfl
 have y1:=R1.cs.lt
 rw[hA] at c5
 rw[h1] at c10
 have hw:IntKind.i64.wrap ((k:Int)+1)=(k:Int)+1:=IntWalk.i64_in _ (by omega)
 have HB:=Lib.hid hb
 clear hb R1
 go_wp2_with fail
 go_quiet (fail)
 go_wp2_with fail
 go_ret
 exact⟨ret_slN (by omega),bdN HB.out _⟩
end Go.Proofs.YtlckmjiioohcmaaGreatDoor

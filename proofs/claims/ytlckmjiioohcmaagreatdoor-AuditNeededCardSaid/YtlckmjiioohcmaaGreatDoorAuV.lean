/-
  Walks of the audit reader's methods learn and read. Conditions: as each theorem says.
-/
import Derived.Test.YtlckmjiioohcmaaGreatDoorAuS
import Derived.Test.YtlckmjiioohcmaaGreatDoorAuU
import Derived.BigRegion
namespace Go.Proofs.YtlckmjiioohcmaaGreatDoor
open Go.RowKit
theorem broken_rules {s:Au} {op:MOp} {rp:MRp} (h:brokenA s op rp=0) (he:rp.err=0) (k:Nat) (hk:k<11):ruleA s op rp k=false:=by
 unfold brokenA at h
 split at h
 ·cases h
 ·rw[if_neg (by simpa using he)] at h
  split at h
  ·omega
  ·rename_i hn
   simpa using List.find?_eq_none.1 hn k (List.mem_range.2 hk)
set_option maxHeartbeats 2000000 in
theorem learn_any {w0 W:World} {g a b:Nat} {V:Option Addr} {vc:Nat} {s:Au} {op:MOp} {rp:MRp} (R:RdO w0 W g a b V vc s op rp) (ok:Aok s) (hk1:1≤op.kind) (hk2:op.kind≤12) (h0:∀k,k<11→ruleA s op rp k=false):
 Calls Tryz.prog 83 #[.pointer (some ⟨g,0,none⟩)] W (LearnPost w0 W g a b V vc (learnA s op rp) op rp):=by
 have hl:lostA s op rp=false:=h0 2 (by omega)
 have hlen:=ok.len
 have hkind:op.kind=1∨op.kind=2∨op.kind=3∨op.kind=4∨op.kind=5∨op.kind=6∨op.kind=7∨op.kind=8∨op.kind=9∨op.kind=10∨op.kind=11∨op.kind=12:=by omega
 rcases hkind with hk|hk|hk|hk|hk|hk|hk|hk|hk|hk|hk|hk
 ·exact learn1_any R hk
 ·obtain⟨k,h1,h2⟩:=lost_seat hl (by rw[hk];rfl) (by rw[hk];rfl)
  have hs:op.seat=(k:Int):=by rw[←h1,seatA,hk];rfl
  have hL:learnA s op rp={s with seats:=modSeg (holdS op.owner rp.deadline) s.seats k 1}:=by simp[learnA,isB,hk,firstA,manyA,hs]
  rw[hL]
  refine learnH_any R (by rw[hk];rfl) (by omega) (by omega) (c:=s.seats.length-k) fun w hw=> ?_
  have:=chosenS_any (R.rd.up hw) (by rw[hk];rfl) (b:=a) (off:=0) (k:=k) rfl hs h2
  simpa[ownF] using this
 ·obtain⟨k,m,h1,h2,h3,h4⟩:=lost_block ok hl (by rw[hk];rfl)
  have hL:learnA s op rp={s with seats:=modSeg (holdS op.owner rp.deadline) s.seats k m}:=by simp[learnA,isB,hk,firstA,manyA,h1,h2]
  rw[hL]
  refine learnH_any R (by rw[hk];rfl) h3 (by omega) (c:=s.seats.length-k) fun w hw=> ?_
  have:=chosenB_any (R.rd.up hw) (by rw[hk];rfl) (b:=a) (off:=0) (k:=k) rfl h1 h2 h3 h4
  simpa[ownF] using this
 ·obtain⟨k,h1,h2⟩:=lost_seat hl (by rw[hk];rfl) (by rw[hk];rfl)
  exact learn4_any R hk h1 h2
 ·obtain⟨k,h1,h2⟩:=lost_seat hl (by rw[hk];rfl) (by rw[hk];rfl)
  obtain⟨_,_,_,_,_,_,_,_,_,_,_,_,⟨hx0,hx1⟩,_⟩:=R.rd.ss.atE h2
  refine learn5_any R hk h1 h2 ?_
  have h9:wrongA s.seats op rp=false:=h0 9 (by omega)
  simp[wrongA,isB,hk,h1,List.getElem?_eq_getElem h2] at h9
  omega
 ·obtain⟨k,h1,h2⟩:=lost_seat hl (by rw[hk];rfl) (by rw[hk];rfl)
  obtain⟨_,_,_,_,_,_,_,_,_,_,_,_,⟨hx0,hx1⟩,_⟩:=R.rd.ss.atE h2
  refine learn6_any R hk h1 h2 ?_
  have h9:wrongA s.seats op rp=false:=h0 9 (by omega)
  simp[wrongA,isB,hk,h1,List.getElem?_eq_getElem h2] at h9
  omega
 ·obtain⟨k,h1,h2⟩:=lost_seat hl (by rw[hk];rfl) (by rw[hk];rfl)
  exact learn7_any R hk h1 h2
 ·obtain⟨k,h1,h2⟩:=lost_seat hl (by rw[hk];rfl) (by rw[hk];rfl)
  obtain⟨_,_,_,_,_,_,_,_,_,_,_,_,_,⟨hx0,hx1⟩⟩:=R.rd.ss.atE h2
  have hs:op.seat=(k:Int):=by rw[←h1,seatA,hk];rfl
  refine learn8_any R hk h1 h2 ?_
  have h9:soldA s.seats op=false:=h0 8 (by omega)
  simp[soldA,isB,hk,hs,List.getElem?_eq_getElem h2] at h9
  omega
 ·exact learn9_any R hk
 ·obtain⟨k,h1,h2⟩:=lost_section hl (by rw[hk];rfl)
  have h3:=ok.hwait k _ (List.getElem?_eq_getElem h2)
  have h4:=ok.queue k
  exact learn10_any R hk h1 h2 (by have:=ok.hw;omega) h3.1 (by omega)
 ·obtain⟨k,h1,h2⟩:=lost_section hl (by rw[hk];rfl)
  have h3:=ok.hwait k _ (List.getElem?_eq_getElem h2)
  have h4:=ok.queue k
  have h9:listA s.ve s.waiting op rp=false:=h0 10 (by omega)
  simp[listA,isB,hk,h1,waitOf,List.getElem?_eq_getElem h2] at h9
  exact learn11_any R hk h1 h2 (by omega) (by omega)
 ·exact learn12_any R hk hlen
def stV (op:MOp) (rp:MRp):Value:=.agg #[.int .i64 op.kind,.int .u32 op.owner,.int .i64 op.till,.int .i64 op.seat,.int .i64 op.section_,.int .i64 op.n,.int .u32 op.to,.int .u32 op.tk.seat,.int .u32 op.tk.owner,.int .u64 op.tk.serial,.int .u64 op.tk.epoch,.int .i64 op.now,.int .i64 rp.err,.int .i64 rp.seat,.int .i64 rp.n,.int .i64 rp.deadline,.int .u32 rp.tk.seat,.int .u32 rp.tk.owner,.int .u64 rp.tk.serial,.int .u64 rp.tk.epoch,.int .i64 rp.place]
theorem Cells.putMany:∀(us:List Value) {W:World} {g:Nat} {cs:List Value} (off:Nat),Cells W g cs→Cells (putAt W g off us) g (setAll cs off us)
 |[],_,_,_,_,h=>h
 |_::us,_,_,_,off,h=>Cells.putMany us (off+1) h.set1
theorem setAll_rd (F:Frm) (s:Au) (op0 op:MOp) (rp0 rp:MRp):setAll (setAll (auCells F s++opCells op0++rpCells rp0) 7 (opCells op)) 19 (rpCells rp)=auCells F s++opCells op++rpCells rp:=by
 simp[setAll,auCells,opCells,rpCells]
def readA (s:Au) (op:MOp) (rp:MRp):Int×Int×Au:=
 if decide (op.kind<1)||decide (12<op.kind) then(0,2,s) else(brokenA s op rp,0,if brokenA s op rp=0∧rp.err=0 then learnA s op rp else s)
def ReadPost (w0 W:World) (g a b:Nat) (V:Option Addr) (vc:Nat) (s:Au) (op:MOp) (rp:MRp) (e:Ending) (w':World):Prop:=
 e=.returned (.tuple #[.int .i64 (readA s op rp).1,.int .i64 (readA s op rp).2.1])∧(∃op' rp',RdO w0 w' g a b V vc (readA s op rp).2.2 op' rp')∧Only3 g a b W w'
set_option maxHeartbeats 4000000 in
theorem read_any {w0 W:World} {g a b:Nat} {V:Option Addr} {vc:Nat} {s:Au} {op0 op:MOp} {rp0 rp:MRp} (R:RdO w0 W g a b V vc s op0 rp0) (ok:Aok s) (ho:OpOk op) (hr:RpOk rp):
 Calls Tryz.prog 50 #[.pointer (some ⟨g,0,none⟩),stV op rp] W (ReadPost w0 W g a b V vc s op rp):=by
 unfold stV
 by_cases hk:op.kind<1∨12<op.kind
 ·have hA:readA s op rp=(0,2,s):=by rw[readA,if_pos (by simpa using hk)]
  unfold ReadPost
  rw[hA]
  clear hA
  by_cases h1:op.kind<1
  ·have t1:decide (op.kind<1)=true:=decide_eq_true h1
   have RH:=Lib.hid R
   clear R hk ok
   go_enter Tryz.func50,Tryz.ntmps50
   go_wp2_with fail
   go_ret2
   exact⟨rfl,⟨_,_,RH.out.up (ba _ _)⟩,Only3.of _ _ _ (ba _ _)⟩
  ·have t1:decide (op.kind<1)=false:=decide_eq_false h1
   have t2:decide (12<op.kind)=true:=decide_eq_true (by omega)
   have RH:=Lib.hid R
   clear R hk ok
   go_enter Tryz.func50,Tryz.ntmps50
   go_wp2_with fail
   go_ret2
   exact⟨rfl,⟨_,_,RH.out.up (ba _ _)⟩,Only3.of _ _ _ (ba _ _)⟩
 ·have hk1:1≤op.kind:=by omega
  have hk2:op.kind≤12:=by omega
  have t1:decide (op.kind<1)=false:=decide_eq_false (by omega)
  have t2:decide (12<op.kind)=false:=decide_eq_false (by omega)
  have hA:readA s op rp=(brokenA s op rp,0,if brokenA s op rp=0∧rp.err=0 then learnA s op rp else s):=by rw[readA,t1,t2];rfl
  unfold ReadPost
  rw[hA]
  clear hA hk
  obtain⟨V0,hV⟩:∃V0,brokenA s op rp=V0:=⟨_,rfl⟩
  rw[hV]
  have HV:=Lib.hid hV
  clear hV
  have RH:=Lib.hid R
  clear R
  go_enter Tryz.func50,Tryz.ntmps50
  go_wp2_with fail
  refine at_world (fun w=>Below W.heap.size W w∧Cells w W.heap.size [.int .i64 op.kind,.int .u32 op.owner,.int .i64 op.till,.int .i64 op.seat,.int .i64 op.section_,.int .i64 op.n,.int .u32 op.to,.int .u32 op.tk.seat,.int .u32 op.tk.owner,.int .u64 op.tk.serial,.int .u64 op.tk.epoch,.int .i64 op.now,.int .i64 rp.err,.int .i64 rp.seat,.int .i64 rp.n,.int .i64 rp.deadline,.int .u32 rp.tk.seat,.int .u32 rp.tk.owner,.int .u64 rp.tk.serial,.int .u64 rp.tk.epoch,.int .i64 rp.place]) ⟨ba _ _,Cells.new _ _ _⟩ fun W1 ⟨hb1,k1⟩=> ?_
  have HB1:=Lib.hid hb1
  have HK1:=Lib.hid k1
  have R1:=RH.out.up hb1
  have e0:=k1.c 0 _ rfl
  have e1:=k1.c 1 _ rfl
  have e2:=k1.c 2 _ rfl
  have e3:=k1.c 3 _ rfl
  have e4:=k1.c 4 _ rfl
  have e5:=k1.c 5 _ rfl
  have e6:=k1.c 6 _ rfl
  have e7:=k1.c 7 _ rfl
  have e8:=k1.c 8 _ rfl
  have e9:=k1.c 9 _ rfl
  have e10:=k1.c 10 _ rfl
  have e11:=k1.c 11 _ rfl
  have e12:=k1.c 12 _ rfl
  have e13:=k1.c 13 _ rfl
  have e14:=k1.c 14 _ rfl
  have e15:=k1.c 15 _ rfl
  have e16:=k1.c 16 _ rfl
  have e17:=k1.c 17 _ rfl
  have e18:=k1.c 18 _ rfl
  have e19:=k1.c 19 _ rfl
  have e20:=k1.c 20 _ rfl
  have c7:=R1.cs.c 7 _ rfl
  have f7:=R1.cs.f 7
  have c8:=R1.cs.c 8 _ rfl
  have f8:=R1.cs.f 8
  have c9:=R1.cs.c 9 _ rfl
  have f9:=R1.cs.f 9
  have c10:=R1.cs.c 10 _ rfl
  have f10:=R1.cs.f 10
  have c11:=R1.cs.c 11 _ rfl
  have f11:=R1.cs.f 11
  have c12:=R1.cs.c 12 _ rfl
  have f12:=R1.cs.f 12
  have c13:=R1.cs.c 13 _ rfl
  have f13:=R1.cs.f 13
  have c14:=R1.cs.c 14 _ rfl
  have f14:=R1.cs.f 14
  have c15:=R1.cs.c 15 _ rfl
  have f15:=R1.cs.f 15
  have c16:=R1.cs.c 16 _ rfl
  have f16:=R1.cs.f 16
  have c17:=R1.cs.c 17 _ rfl
  have f17:=R1.cs.f 17
  have c18:=R1.cs.c 18 _ rfl
  have f18:=R1.cs.f 18
  have c19:=R1.cs.c 19 _ rfl
  have f19:=R1.cs.f 19
  have c20:=R1.cs.c 20 _ rfl
  have f20:=R1.cs.f 20
  have c21:=R1.cs.c 21 _ rfl
  have f21:=R1.cs.f 21
  have c22:=R1.cs.c 22 _ rfl
  have f22:=R1.cs.f 22
  have c23:=R1.cs.c 23 _ rfl
  have f23:=R1.cs.f 23
  have c24:=R1.cs.c 24 _ rfl
  have f24:=R1.cs.f 24
  have c25:=R1.cs.c 25 _ rfl
  have f25:=R1.cs.f 25
  have c26:=R1.cs.c 26 _ rfl
  have f26:=R1.cs.f 26
  have c27:=R1.cs.c 27 _ rfl
  have f27:=R1.cs.f 27
  have y0:=RH.out.cs.lt
  have y1:=R1.cs.lt
  have y2:=k1.lt
  clear R1 k1 hb1
  go_wp2_with fail
  go_region
  clear e0 e1 e2 e3 e4 e5 e6 e7 e8 e9 e10 e11 e12 e13 e14 e15 e16 e17 e18 e19 e20 c7 f7 c8 f8 c9 f9 c10 f10 c11 f11 c12 f12 c13 f13 c14 f14 c15 f15 c16 f16 c17 f17 c18 f18 c19 f19 c20 f20 c21 f21 c22 f22 c23 f23 c24 f24 c25 f25 c26 f26 c27 f27
  have k2:=Cells.putMany (rpCells rp) 19 (Cells.putMany (opCells op) 7 (RH.out.up HB1.out).cs)
  rw[setAll_rd] at k2
  have g2:=grownBy_trans (grownBy_putAt (opCells op) W1 g 7) (grownBy_putAt (rpCells rp) _ g 19)
  obtain⟨R2,ho2⟩:=(RH.out.up HB1.out).putOwn (n:=s.now) (op':=op) (rp':=rp) RH.out.bn ho hr g2 k2
  have kb:=HK1.out.grown g2 (fun e=>by injection e with e;omega)
  refine at_world (fun w=>RdO w0 w g a b V vc s op rp∧Only3 g a b W w∧Cells w W.heap.size [.int .i64 op.kind,.int .u32 op.owner,.int .i64 op.till,.int .i64 op.seat,.int .i64 op.section_,.int .i64 op.n,.int .u32 op.to,.int .u32 op.tk.seat,.int .u32 op.tk.owner,.int .u64 op.tk.serial,.int .u64 op.tk.epoch,.int .i64 op.now,.int .i64 rp.err,.int .i64 rp.seat,.int .i64 rp.n,.int .i64 rp.deadline,.int .u32 rp.tk.seat,.int .u32 rp.tk.owner,.int .u64 rp.tk.serial,.int .u64 rp.tk.epoch,.int .i64 rp.place]) ⟨R2.up (bdd (Below.refl _ _)),((Only3.of _ _ _ HB1.out).trans ho2).drew,kb.drew⟩ fun W2 ⟨R3,ho3,k3⟩=> ?_
  have RH3:=Lib.hid R3
  have HO3:=Lib.hid ho3
  have HK3:=Lib.hid k3
  clear R3 ho3 k3 R2 ho2 kb g2 k2 y0 y1 y2
  have CB:=Lib.hid (broken_any RH3.out.rd ok)
  have hRules:=Lib.hid (fun h he=>broken_rules (s:=s) (op:=op) (rp:=rp) h he)
  rw[HV.out] at CB hRules
  go_wp2_with fail
  refine CB.out.mono ?_
  rintro e w3 ⟨rfl,hb⟩
  have RH4:=Lib.hid (RH3.out.up hb)
  have HO4:=Lib.hid (HO3.out.trans (Only3.of _ _ _ hb))
  have k4:=HK3.out.later hb
  have e12:=k4.c 12 _ rfl
  have y4:=k4.lt
  clear hb k4
  by_cases h0:V0=0
  ·subst h0
   by_cases he:rp.err=0
   ·rw[he] at e12
    have CL:=Lib.hid (learn_any RH4.out ok hk1 hk2 (hRules.out rfl he))
    clear hk1 hk2 t1 t2 hRules ok
    go_wp2_with fail
    refine CL.out.mono ?_
    rintro e w5 ⟨rfl,R5,ho5⟩
    have RH5:=Lib.hid R5
    have HO5:=Lib.hid (HO4.out.trans ho5)
    clear R5 ho5
    go_wp2_with fail
    go_ret2
    exact⟨rfl,⟨_,_,RH5.out.same (by first|rfl|simp[he])⟩,HO5.out⟩
   ·have t3:(rp.err==0)=false:=by simpa using he
    go_wp2_with fail
    go_ret2
    exact⟨rfl,⟨_,_,RH4.out.same (by first|rfl|simp[he])⟩,HO4.out⟩
  ·have t3:(V0==0)=false:=by simpa using h0
   go_wp2_with fail
   go_ret2
   exact⟨rfl,⟨_,_,RH4.out.same (by first|rfl|simp[h0])⟩,HO4.out⟩
end Go.Proofs.YtlckmjiioohcmaaGreatDoor
